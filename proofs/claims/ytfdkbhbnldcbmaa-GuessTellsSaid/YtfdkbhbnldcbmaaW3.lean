/- Walks: sort.Search; whether a set has a rune. -/
import Derived.Test.YtfdkbhbnldcbmaaW1
import Derived.Test.YtfdkbhbnldcbmaaSpec
namespace Go.Proofs.Ytfdkbhbnldcbmaa
open Go.RowKit
set_option linter.unusedVariables false

set_option maxHeartbeats 400000 in
theorem refHas_any (A : Option Addr) (n c : Nat) (l : List Sp) (r : Int) (w : World) (h : Spans w A n c l) :
    Calls Try.prog 62 #[.slice A n c, .int .i32 r] w fun e w' => e = .returned (.bool (has l r)) ∧ Ext w w' := by
  have hm := h.max; unfold maxLen at hm
  have hcap := h.cap
  have hlen := Lib.hid h.len
  go_enter Try.func62, Try.ntmps62
  go_wp2
  go_loopw [9] (fun i wr => ∃ k : Nat, k ≤ n ∧ i = .int .i64 k ∧ has l r = has (l.drop k) r ∧ Ext w wr) (fun i _ => n - (intOf i).toNat)
  case atStart => exact ⟨0, by omega, rfl, rfl, Ext.refl _⟩
  case round =>
    obtain ⟨k, hk, rfl, hkk, hx⟩ := hrel
    have HK := Lib.hid hkk; clear hkk
    by_cases hlt : k < n
    · obtain ⟨x, hxx⟩ := h.idx hlt
      obtain ⟨b, off, rfl, ⟨_, hne⟩, hc1, hc2, _⟩ := (h.ext hx).span hxx
      have HD := Lib.hid (drop_cons hxx); clear hxx
      have hin : inSp x r = (decide (x.lo ≤ r) && decide (r ≤ x.hi)) := rfl
      obtain ⟨xlo, xhi⟩ := x
      dsimp only at *
      have HI := Lib.hid hin; clear hin
      have hs : ∀ b, has ((⟨xlo, xhi⟩ : Sp) :: b) r = (inSp ⟨xlo, xhi⟩ r || has b r) := fun b => rfl
      have HS := Lib.hid hs; clear hs
      by_cases h1 : xlo ≤ r
      · by_cases h2 : r ≤ xhi
        · have e : inSp ⟨xlo, xhi⟩ r = true := by rw [HI.out]; simp [h1, h2]
          have E := Lib.hid e; clear e
          go_wp2
          go_ret
          rw [HK.out, HD.out, HS.out, E.out, Bool.true_or]
          exact ⟨rfl, hx.alloc _⟩
        · have e : inSp ⟨xlo, xhi⟩ r = false := by rw [HI.out]; simp; omega
          have E := Lib.hid e; clear e
          go_wp2
          go_roundw
          case rel => exact ⟨k + 1, by omega, by go_num, by rw [HK.out, HD.out, HS.out, E.out, Bool.false_or], hx.alloc _⟩
          case measure => simp [intOf]; omega
      · have e : inSp ⟨xlo, xhi⟩ r = false := by rw [HI.out]; simp; omega
        have E := Lib.hid e; clear e
        go_wp2
        go_roundw
        case rel => exact ⟨k + 1, by omega, by go_num, by rw [HK.out, HD.out, HS.out, E.out, Bool.false_or], hx.alloc _⟩
        case measure => simp [intOf]; omega
    · go_wp2
      go_ret
      rw [HK.out, drop_end hlen.out hlt]
      exact ⟨rfl, hx⟩

/-- A function value that tells a predicate on places below n. -/
def PredInt (g : FuncId) (caps : Array Value) (p : Nat → Bool) (n : Nat) (w : World) : Prop :=
  ∀ W (i : Nat), Ext w W → i < n → Calls Try.prog g (#[.int .i64 i] ++ caps) W fun e w' => e = .returned (.bool (p i)) ∧ Ext W w'

theorem half_u (i j : Nat) (h : i < j) (hj : j ≤ 4611686018427387904) : i ≤ (i + j) / 2 ∧ (i + j) / 2 < j := by omega

set_option maxHeartbeats 800000 in
theorem Search_any (n : Nat) (g : FuncId) (caps : Array Value) (p : Nat → Bool) (w : World) (hn : n ≤ 4611686018427387904)
    (eg : ∀ args w, (callFunc g args).run Try.prog w = .ok (.enter g args) w) (hp : PredInt g caps p n w) :
    Calls Try.prog 114 #[.int .i64 n, .func (.func g) #[] caps] w fun e w' => (∃ i : Nat, e = .returned (.int .i64 i) ∧ Found p n i) ∧ Ext w w' := by
  have HP := Lib.hid hp; clear hp
  go_enter Try.func114, Try.ntmps114
  go_wp2
  go_loopw [5, 6] (fun u v wr => ∃ i j : Nat, i ≤ j ∧ j ≤ n ∧ u = .int .i64 i ∧ v = .int .i64 j ∧ Hid ((0 < i → p (i - 1) = false) ∧ (j < n → p j = true)) ∧ Ext w wr) (fun u v _ => (intOf v).toNat - (intOf u).toNat)
  case atStart => exact ⟨0, n, by omega, by omega, rfl, rfl, ⟨fun h => absurd h (by omega), fun h => absurd h (by omega)⟩, Ext.refl _⟩
  case round =>
    obtain ⟨i, j, hij, hjn, rfl, rfl, hpp, hx⟩ := hrel
    by_cases hlt : i < j
    · obtain ⟨m, hm⟩ : ∃ m : Nat, m = (i + j) / 2 := ⟨_, rfl⟩
      have e : ((i : Int) + (j : Int)) / 2 = (m : Int) := by omega
      have hm1 : i ≤ m := by omega
      have hm2 : m < j := by omega
      have HE := Lib.hid e; clear e hm
      have hcon := HP.out wr m hx (by omega)
      have HC := Lib.hid hcon; clear hcon
      by_cases hr : p m = true
      · go_wp2
        rw [HE.out]
        refine HC.out.mono ?_
        rintro e w1 ⟨rfl, hx1⟩
        rw [hr]
        go_wp2
        go_roundw
        case rel => exact ⟨i, m, by omega, by omega, rfl, rfl, ⟨hpp.out.1, fun _ => hr⟩, hx.trans hx1⟩
        case measure => simp [intOf]; omega
      · have hr' : p m = false := by simpa using hr
        go_wp2
        rw [HE.out]
        refine HC.out.mono ?_
        rintro e w1 ⟨rfl, hx1⟩
        rw [hr']
        go_wp2
        go_roundw
        case rel => exact ⟨m + 1, j, by omega, by omega, by go_num, rfl, ⟨fun _ => by simpa using hr', hpp.out.2⟩, hx.trans hx1⟩
        case measure => simp [intOf]; omega
    · go_wp2
      go_ret
      have e : i = j := by omega
      subst e
      exact ⟨⟨i, rfl, hjn, hpp.out.1, hpp.out.2⟩, hx⟩

/-- 's[i].High >= r', s and r captured -/
theorem hasAt_any (B : Nat) (A : Option Addr) (n c : Nat) (l : List Sp) (r : Int) (i : Nat) (w : World) (h : Spans w A n c l) (hi : i < n)
    (h0 : w.cell? ⟨B, 0, none⟩ = some (.slice A n c)) (h1 : w.cell? ⟨B + 1, 0, none⟩ = some (.int .i32 r)) :
    Calls Try.prog 115 #[.int .i64 i, .pointer (some ⟨B, 0, none⟩), .pointer (some ⟨B + 1, 0, none⟩)] w
      fun e w' => e = .returned (.bool (decide (r ≤ (l.getD i default).hi))) ∧ Ext w w' := by
  obtain ⟨x, hxx⟩ := h.idx hi
  have hm := h.max; unfold maxLen at hm
  have hcap := h.cap
  obtain ⟨b, off, rfl, ⟨_, hne⟩, hc1, hc2, _⟩ := h.span hxx
  have e : l.getD i default = x := by simp [List.getD, hxx]
  have HE := Lib.hid e; clear e hxx
  have hi' : (i : Int) < (n : Int) := by omega
  go_enter Try.func115, Try.ntmps115
  go_wp2
  go_quiet (fail)
  go_wp2
  go_ret
  rw [HE.out]
  exact ⟨rfl, (Ext.refl _).drewN _⟩

set_option maxHeartbeats 800000 in
theorem setsHas_any (A : Option Addr) (n c : Nat) (l : List Sp) (r : Int) (w : World) (h : Spans w A n c l) (hg : wrongSet l = 0) :
    Calls Try.prog 51 #[.slice A n c, .int .i32 r] w fun e w' => e = .returned (.bool (has l r)) ∧ Ext w w' := by
  have G := good_of hg
  have hn : n ≤ 200 := by rw [← h.len]; exact G.len
  have hm := h.max; unfold maxLen at hm
  have hcap := h.cap
  have hmf : ∀ (fn : Fn) (first cap : Array Value) (w : World), (Instr.makeFunc fn first cap).run Try.prog w = .ok (.func fn first cap) w := fun _ _ _ _ => rfl
  have eg : ∀ args w, (callFunc 115 args).run Try.prog w = .ok (.enter 115 args) w := enters Try.func115 (by kernel_rfl) rfl
  have ex : Ext w ((w.alloc (.cells #[.slice A n c] 67)).alloc (.cells #[.int .i32 r] 21)) := ((Ext.refl _).alloc _).alloc _
  have hp : PredInt 115 #[.pointer (some ⟨w.heap.size, 0, none⟩), .pointer (some ⟨w.heap.size + 1, 0, none⟩)] (fun j => decide (r ≤ (l.getD j default).hi)) n ((w.alloc (.cells #[.slice A n c] 67)).alloc (.cells #[.int .i32 r] 21)) := by
    intro W i hW hi
    exact hasAt_any w.heap.size A n c l r i W (h.ext (ex.trans hW)) hi (hW.cell (by simp)) (hW.cell (by simp))
  have HC := Lib.hid (Search_any n _ _ _ _ (by omega) eg hp)
  clear hp
  go_enter Try.func51, Try.ntmps51
  go_wp2_with (go_at_call 114; refine HC.out.mono ?_; rintro e w1 ⟨⟨i, rfl, hf⟩, hx⟩)
  have hfd := hf
  rw [← h.len] at hfd
  have HR := Lib.hid (has_found G hfd)
  clear hfd
  have hx0 := ex.trans hx
  have hin := hf.1
  have HF := Lib.hid hf; clear hf
  have hc0 : w1.cell? ⟨w.heap.size, 0, none⟩ = some (.slice A n c) := hx.cell (by simp)
  have hc1 : w1.cell? ⟨w.heap.size + 1, 0, none⟩ = some (.int .i32 r) := hx.cell (by simp)
  by_cases hi : i < n
  · obtain ⟨x, hxx⟩ := h.idx hi
    obtain ⟨b, off, rfl, ⟨_, hne⟩, hcl, _, _⟩ := (h.ext hx0).span hxx
    have HX := Lib.hid hxx; clear hxx
    have hi' : (i : Int) < (n : Int) := by omega
    go_wp2
    go_quiet (fail)
    go_wp2
    go_ret
    rw [HR.out, getD_of HX.out, h.len]
    exact ⟨by simp [hi], hx0.drewN _⟩
  · have hi' : decide ((i : Int) < (n : Int)) = false := by simp; omega
    go_wp2
    go_quiet (fail)
    go_wp2
    go_ret
    rw [HR.out, h.len]
    exact ⟨by simp [hi], hx0.drewN _⟩

end Go.Proofs.Ytfdkbhbnldcbmaa
