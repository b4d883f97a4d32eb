/- Walk of Move. -/
import Derived.Test.YtpnflnocmekpnaaG3
import Derived.StillTailTactics
import Derived.Deep.LoopGhost
import Derived.Deep.Cut
import Derived.Deep.CutRange
namespace Go.Proofs.Ytpnflnocmekpnaa
open Go.RowKit
set_option linter.unusedVariables false
set_option linter.unusedSimpArgs false

theorem drop_set_self {L : List Int} {k : Nat} {x : Int} (h : k < L.length) : (L.set k x).drop k = x :: L.drop (k + 1) := by
  rw [List.drop_eq_getElem_cons (by simpa using h)]
  congr 1
  · simp
  · rw [List.drop_set_of_lt (by omega)]
theorem move_left {L : List Int} {f tz : Nat} {x : Int} (h0 : 0 < f) (h1 : f ≤ tz) (h2 : tz ≤ L.length) (hx : L[f - 1]? = some x) :
    (L.set (tz - 1) x).take (f - 1) ++ (L.set (tz - 1) x).drop (tz - 1) = L.take f ++ L.drop tz := by
  rw [drop_set_self (by omega), List.take_set_of_le (by omega), show tz - 1 + 1 = tz by omega]
  obtain ⟨g, rfl⟩ : ∃ g, f = g + 1 := ⟨f - 1, by omega⟩
  simp only [Nat.add_sub_cancel] at hx ⊢
  rw [take_snoc hx]; simp
theorem move_right {L : List Int} {f tz : Nat} {x : Int} (h1 : f ≤ tz) (h2 : tz < L.length) (hx : L[tz]? = some x) :
    (L.set f x).take (f + 1) ++ (L.set f x).drop (tz + 1) = L.take f ++ L.drop tz := by
  rw [List.drop_set_of_lt (by omega), take_snoc (x := x) (by simp [show f < L.length by omega]), List.take_set_of_le (by omega)]
  rw [List.append_assoc]
  congr 1
  have := List.drop_eq_getElem_cons (l := L) h2
  rw [this]
  have hx' : L[tz] = x := by rw [List.getElem?_eq_getElem h2] at hx; exact Option.some.inj hx
  rw [hx']; rfl

set_option maxRecDepth 100000 in
set_option maxHeartbeats 4000000 in
theorem Move_any {base : Nat} {w : World} {pb : Nat} {t : List Int} {at_ : Nat} (h : Buf base w pb t at_) (n : Nat) (hn : n ≤ t.length) :
    Calls Try.prog 11 #[.pointer (some ⟨pb, 0, none⟩), .int .i64 (n : Nat)] w fun e w' => e = .returned (.tuple #[]) ∧ Below base w w' ∧ Buf base w' pb t n := by
  obtain ⟨ab, L0, to0, hb0, b1, b2, e0⟩ := h
  obtain ⟨hl0, ht0⟩ := Buf.len (base := base) hb0 e0
  have n0 : n ≤ 12000 := by have := hb0.max; omega
  go_enter Try.func11, Try.ntmps11
  go_wp2
  go_loopg [42] (at_ - n) (fun k s wr => ∃ L f tz, BufB wr pb ab L f tz ∧ Below base w wr ∧ t = L.take f ++ L.drop tz ∧ f - n ≤ k)
  case atStart => exact ⟨L0, at_, to0, hb0, Below.refl _ _, e0, Nat.le_refl _⟩
  case round =>
    obtain ⟨L, f, tz, hb, hB, e, hk⟩ := hrel
    have h1 := hb.c1
    obtain ⟨hl, ht⟩ := Buf.len (base := base) hb e
    have l1 := hb.le; have l2 := hb.le'; have l3 := hb.max
    by_cases hlt : n < f
    · obtain ⟨x, hx⟩ : ∃ x, L[f - 1]? = some x := ⟨L[f - 1]'(by omega), List.getElem?_eq_getElem (by omega)⟩
      have hx' : i32 x := hb.ok x (List.mem_of_getElem? hx)
      have hb3 := (hb.setFr (f := f - 1) (by omega)).setTo (t := tz - 1) (by omega) (by omega)
      have h2 := hb.c2
      have hf := hb.fp
      rw [show ((f - 1 : Nat) : Int) = (f : Int) - 1 by omega, show ((tz - 1 : Nat) : Int) = (tz : Int) - 1 by omega] at hb3
      have B3 := Lib.hid hb3; have B0 := Lib.hid hb; have E := Lib.hid e
      have BB := Lib.hid (((hB.setCell (p := ⟨pb, 1, none⟩) b1 (.int .i64 ((f : Int) - 1))).setCell (p := ⟨pb, 2, none⟩) b1 (.int .i64 ((tz : Int) - 1))))
      clear hb3 hb e hb0 e0
      go_upto_region 3 with fail
      generalize (wr.setCell ⟨pb, 1, none⟩ (.int .i64 ((f : Int) - 1))).setCell ⟨pb, 2, none⟩ (.int .i64 ((tz : Int) - 1)) = w3 at *
      obtain ⟨p, hp⟩ : ∃ p, p = f - 1 := ⟨_, rfl⟩
      obtain ⟨q, hq⟩ : ∃ q, q = tz - 1 := ⟨_, rfl⟩
      rw [← hp] at hx B3; rw [← hq] at B3
      obtain ⟨y, hy⟩ : ∃ y, L[q]? = some y := ⟨L[q]'(by omega), List.getElem?_eq_getElem (by omega)⟩
      have g0 := B3.out.c0; have g1 := B3.out.c1; have g2 := B3.out.c2
      have gx := B3.out.ca hx; have gy := B3.out.ca hy; have gf := B3.out.fa q
      have hpl : (p : Int) < (L.length : Int) := by omega
      have hql : (q : Int) < (L.length : Int) := by omega
      have HP := Lib.hid hp; have HQ := Lib.hid hq
      clear h1 h2 hp hq
      go_still_tail 19, (by kernel_rfl)
      change wpList _ _ _ _ _ w3.drew
      go_wp2
      clear gx gy gf g0 g1 g2 hpl hql
      have eq : Hid (t = (L.set q x).take p ++ (L.set q x).drop q) := Lib.hid (by
        rw [E.out]
        have := move_left (L := L) (f := f) (tz := tz) (x := x) (by omega) (by omega) (by omega) (by rw [← HP.out]; exact hx)
        rw [← HP.out, ← HQ.out] at this
        exact this.symm)
      have B4 := Lib.hid ((B3.out.setAt q hx').ext ((Ext.refl _).drew))
      have BB4 := Lib.hid ((BB.out.setCell (p := ⟨ab, q, none⟩) b2 (.int .i32 x)).drew)
      go_roundg (gk - 1)
      case rel => exact ⟨_, p, q, B4.out, BB4.out, eq.out, by have := HP.out; omega⟩
      case measure => omega
    · have E := Lib.hid e
      clear e hb0 e0
      go_wp2
      go_loopg [81] (n - f) (fun k s wr => ∃ L f tz, BufB wr pb ab L f tz ∧ Below base w wr ∧ t = L.take f ++ L.drop tz ∧ n - f ≤ k ∧ f ≤ n)
      case atStart => exact ⟨L, f, tz, hb, hB, E.out, Nat.le_refl _, by omega⟩
      case round =>
        clear hb h1 E hl ht l1 l2 l3 hlt hB hk
        obtain ⟨L, f, tz, hb, hB, e, hk, hle⟩ := hrel
        have h1 := hb.c1
        obtain ⟨hl, ht⟩ := Buf.len (base := base) hb e
        have l1 := hb.le; have l2 := hb.le'; have l3 := hb.max
        by_cases hlt : f < n
        · obtain ⟨x, hx⟩ : ∃ x, L[tz]? = some x := ⟨L[tz]'(by omega), List.getElem?_eq_getElem (by omega)⟩
          obtain ⟨y, hy⟩ : ∃ y, L[f]? = some y := ⟨L[f]'(by omega), List.getElem?_eq_getElem (by omega)⟩
          have hx' : i32 x := hb.ok x (List.mem_of_getElem? hx)
          have g0 := hb.c0; have g2 := hb.c2
          have gx := hb.ca hx; have gy := hb.ca hy; have gf := hb.fa f
          have hpl : (tz : Int) < (L.length : Int) := by omega
          have hql : (f : Int) < (L.length : Int) := by omega
          have eq : Hid (t = (L.set f x).take (f + 1) ++ (L.set f x).drop (tz + 1)) := Lib.hid (by rw [e]; exact (move_right l1 (by omega) hx).symm)
          have B4 := Lib.hid ((hb.setAt f hx').ext ((Ext.refl _).drew))
          have BB4 := Lib.hid ((hB.setCell (p := ⟨ab, f, none⟩) b2 (.int .i32 x)).drew)
          clear e hb hB
          go_upto_region 5 with fail
          go_still_tail 19, (by kernel_rfl)
          change wpList _ _ _ _ _ wr.drew
          clear g0 g2 h1
          go_upto_region 6 with fail
          generalize (wr.setCell ⟨ab, f, none⟩ (.int .i32 x)).drew = w3 at *
          have g1 := B4.out.c1; have g2 := B4.out.c2; have gp := B4.out.fp
          have hb3 := B4.out.setBoth (f := f + 1) (t := tz + 1) (by omega) (by simp; omega)
          rw [show ((f + 1 : Nat) : Int) = (f : Int) + 1 by omega, show ((tz + 1 : Nat) : Int) = (tz : Int) + 1 by omega] at hb3
          have HB3 := Lib.hid hb3
          have BB5 := Lib.hid (((BB4.out.setCell (p := ⟨pb, 1, none⟩) b1 (.int .i64 ((f : Int) + 1))).setCell (p := ⟨pb, 2, none⟩) b1 (.int .i64 ((tz : Int) + 1))))
          clear hb3
          go_wp2
          go_roundg (gk - 1)
          case rel => exact ⟨_, f + 1, tz + 1, HB3.out, BB5.out, eq.out, by omega, by omega⟩
          case measure => omega
        · have hfn : f = n := by omega
          subst hfn
          go_wp2
          go_end0
          exact ⟨rfl, hB, ab, L, tz, hb, b1, b2, e⟩

end Go.Proofs.Ytpnflnocmekpnaa
