/- Walks: Pairs, of the program and of the document. -/
import Derived.Test.YtbcmfebfcoedkaaZ13
import Derived.Deep.RegionHeld3
namespace Go.Proofs.Ytbcmfebfcoedkaa
open Go.RowKit
set_option linter.unusedVariables false
set_option linter.unusedSimpArgs false

theorem SlR.cellAt {w : World} {b off n c k : Nat} {ok : Nat → Prop} {l : List Int} {x : Int} (h : SlR rRune 1 ok w (some ⟨b, off, none⟩) n c l) (hx : l[k]? = some x) : w.cell? ⟨b, off + k, none⟩ = some (.int .i32 x) := by
  obtain ⟨b', off', e, _, hc, _⟩ := h.rune hx
  injection e with e
  injection e with e1 e2
  subst e1 e2
  exact hc
theorem one_newP (w : World) (p : Pr) (t : TypeId) : Pairs (w.alloc (.cells #[.int .i32 p.base, .int .i32 p.mark, .int .i32 p.whole] t)) (some ⟨w.heap.size, 0, none⟩) 1 1 [p] := by
  refine SlR.fresh rfl (by unfold maxLen; omega) fun k u huu => ?_
  match k, huu with
  | 0, huu =>
    have := Option.some.inj huu
    subst this
    refine ⟨[.int .i32 p.base, .int .i32 p.mark, .int .i32 p.whole], rfl, rfl, fun j u hu => ?_⟩
    match j, hu with
    | 0, hu => exact hu
    | 1, hu => exact hu
    | 2, hu => exact hu
theorem pairsOf_get : ∀ {l : List Int} {k : Nat} {p : Pr}, (pairsOf l)[k]? = some p → l[3 * k]? = some p.base ∧ l[3 * k + 1]? = some p.mark ∧ l[3 * k + 2]? = some p.whole
  | a :: b :: c :: r, 0, p, h => by
    simp only [pairsOf, List.getElem?_cons_zero, Option.some.injEq] at h
    subst h
    exact ⟨rfl, rfl, rfl⟩
  | a :: b :: c :: r, k + 1, p, h => by
    simp only [pairsOf, List.getElem?_cons_succ] at h
    have := pairsOf_get h
    rw [show 3 * (k + 1) = 3 * k + 3 by omega]
    exact this
  | [], k, p, h => by simp [pairsOf] at h
  | [_], k, p, h => by simp [pairsOf] at h
  | [_, _], k, p, h => by simp [pairsOf] at h

set_option maxRecDepth 1000000 in
set_option maxHeartbeats 3200000 in
theorem refPairs_any (w : World) : Calls Try.prog 6 #[] w fun e w' => ∃ A c, e = .returned (.slice A 74 c) ∧ Pairs w' A 74 c pairsL ∧ Ext w w' := by
  have C := Lib.hid (Table_any w)
  have HP := Lib.hid (show pairsL = pairsOf tableL from rfl)
  have HL := Lib.hid pairs_len
  go_enter Try.func6, Try.ntmps6
  go_wp2_with (go_at_call 24; refine C.out.mono ?_; rintro e w1 ⟨A, c, rfl, ht, x1⟩)
  have HT := Lib.hid ht; clear ht
  have X1 := Lib.hid x1; clear x1
  clear C
  go_loopw [2, 3] (fun vo vi wr => ∃ (k i : Nat) (v : Value), vo = v ∧ vi = .int .i64 i ∧ i ≤ 3 * k ∧ 3 * k ≤ i ∧ k ≤ 74 ∧ Hid (OwnR rPair 27 3 w1.heap.size wr v (pairsL.take k)) ∧ Hid (Ext w1 wr)) (fun _ vi _ => 222 - (intOf vi).toNat)
  case atStart => exact ⟨0, 0, _, rfl, rfl, by omega, by omega, by omega, Lib.hid (OwnR.nil _ _ _ _ _), Lib.hid (Ext.refl _)⟩
  case round =>
    obtain ⟨k, i, v, rfl, rfl, k1, k2, hk, HO, HX⟩ := hrel
    by_cases hlt : k < 74
    · have gz : (i : Int) + 2 < 222 := by omega
      obtain ⟨p, hp⟩ : ∃ p, pairsL[k]? = some p := ⟨_, List.getElem?_eq_getElem (by rw [HL.out]; exact hlt)⟩
      obtain ⟨t0, t1, t2⟩ := pairsOf_get (by rw [← HP.out]; exact hp)
      rw [show 3 * k = i by omega] at t0 t1 t2
      have hT := HT.out.ext HX.out
      obtain ⟨b, off, rfl, hbb, hc0, _⟩ := hT.rune t0
      have hc1 := hT.cellAt t1
      have hc2 := hT.cellAt t2
      obtain ⟨a1, ha1⟩ : ∃ q, q = i + 1 := ⟨_, rfl⟩
      obtain ⟨a2, ha2⟩ : ∃ q, q = i + 2 := ⟨_, rfl⟩
      have KC := Lib.hid (fun W (e : Ext w1 W) => show W.cell? ⟨b, off + i, none⟩ = some (.int .i32 p.base) ∧ W.cell? ⟨b, off + (i + 1), none⟩ = some (.int .i32 p.mark) ∧ W.cell? ⟨b, off + (i + 2), none⟩ = some (.int .i32 p.whole) from ⟨(HT.out.ext e).cellAt t0, (HT.out.ext e).cellAt t1, (HT.out.ext e).cellAt t2⟩)
      rw [← ha1] at hc1 KC; rw [← ha2] at hc2 KC
      have e1 : (i : Int) + 1 = (a1 : Int) := by omega
      have w1' : IntKind.i64.wrap ((i : Int) + 1) = (a1 : Int) := by rw [IntKind.wrap_i64]; omega
      have w1'' : IntKind.i64.wrap (a1 : Int) = (a1 : Int) := by rw [IntKind.wrap_i64]; omega
      have e2 : (i : Int) + 2 = (a2 : Int) := by omega
      have w2' : IntKind.i64.wrap ((i : Int) + 2) = (a2 : Int) := by rw [IntKind.wrap_i64]; omega
      have w2'' : IntKind.i64.wrap (a2 : Int) = (a2 : Int) := by rw [IntKind.wrap_i64]; omega
      have b0 : (i : Int) < 222 := by omega
      have b1 : (a1 : Int) < 222 := by omega
      have b2 : (a2 : Int) < 222 := by omega
      have HS := Lib.hid (take_snoc hp)
      have HK := Lib.hid (show (pairsL.take k).length ≤ 74 by simp; omega)
      have O2 := Lib.hid ((HO.out.ext (keep_pair top) (Ext.refl wr).drew).ext (keep_pair top) ((Ext.refl wr.drew).alloc (.cells #[.int .i32 p.base, .int .i32 p.mark, .int .i32 p.whole] 27)))
      have X2 := Lib.hid (HX.out.drew.alloc (.cells #[.int .i32 p.base, .int .i32 p.mark, .int .i32 p.whole] 27))
      have S2 := Lib.hid (one_newP wr.drew p 27)
      clear t0 t1 t2 hT hp HO ha1 ha2 hbb
      obtain ⟨pb, hpb⟩ : ∃ q, p.base = q := ⟨_, rfl⟩
      obtain ⟨pm, hpm⟩ : ∃ q, p.mark = q := ⟨_, rfl⟩
      obtain ⟨pw, hpw⟩ : ∃ q, p.whole = q := ⟨_, rfl⟩
      rw [hpb] at hc0; rw [hpm] at hc1; rw [hpw] at hc2
      rw [hpb, hpm, hpw] at O2 X2 S2 KC
      clear hpb hpm hpw
      go_wp2
      go_region_held3 (fun w' => w'.cell? ⟨b, off + i, none⟩ = some (.int .i32 pb) ∧ w'.cell? ⟨b, off + a1, none⟩ = some (.int .i32 pm) ∧ w'.cell? ⟨b, off + a2, none⟩ = some (.int .i32 pw))
        (first | go_keep | exact K3)
        (first
          | (refine step_appS T_pair (by omega) rfl (.tmp 12) (.tmp 28) rfl rfl O2.out rfl S2.out (fun _ _ h => h) one_pair (keep_pair bot) (bot_no _) ?_ X2.out.size ?_
             · have := HK.out; omega
             intro v2 w2 o2 g2 hat2
             have x2 := Lib.hid (X2.out.app g2 O2.out)
             have K3 := KC.out w2 x2.out
             rw [← HS.out] at o2
             have o3 := Lib.hid o2
             clear o2 g2 hat2))
      clear hc0 hc1 hc2 K3
      have w3' : IntKind.i64.wrap ((i : Int) + 3) = (i : Int) + 3 := IntWalk.i64_in _ (by omega)
      go_wp2
      go_roundw
      case rel => exact ⟨k + 1, i + 3, v2, rfl, by go_num, by omega, by omega, by omega, o3, x2⟩
      case measure => simp [intOf]; omega
    · have gz : ¬ (i : Int) + 2 < 222 := by omega
      have e2 : IntKind.i64.wrap ((i : Int) + 2) = (i : Int) + 2 := IntWalk.i64_in _ (by omega)
      have hO := HO.out
      rw [List.take_of_length_le (by rw [HL.out]; omega)] at hO
      obtain ⟨A', c', rfl, s2⟩ := hO.top
      rw [HL.out] at s2
      have S2 := Lib.hid s2
      rw [HL.out]
      clear hO s2 HO
      go_wp2
      go_ret
      exact ⟨_, _, rfl, S2.out, X1.out.trans HX.out⟩

end Go.Proofs.Ytbcmfebfcoedkaa
