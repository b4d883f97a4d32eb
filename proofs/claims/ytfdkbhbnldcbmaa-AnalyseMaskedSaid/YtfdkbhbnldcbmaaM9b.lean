/- Walk of the law AnalyseReach. -/
import Derived.Test.YtfdkbhbnldcbmaaW15
import Derived.Test.YtfdkbhbnldcbmaaW22
namespace Go.Proofs.Ytfdkbhbnldcbmaa
open Go.RowKit
set_option linter.unusedVariables false
set_option linter.unusedSimpArgs false

theorem whichF_zero {l : List Rule} {t : List Int} {a : Int} (h : (whichF l t a).1 = 0) : whichF l t a = (0, 0) ∧ (checkRun l t).1 = 0 ∧ 0 ≤ a ∧ a ≤ t.length := by
  by_cases hc : (checkRun l t).1 = 0
  · by_cases ha : a < 0 ∨ (t.length : Int) < a
    · rw [whichF_far hc ha] at h; simp at h
    · exact ⟨whichF_in hc ha, hc, by omega, by omega⟩
  · rw [whichF_bad hc] at h; exact absurd h hc
theorem checkRun_zero {l : List Rule} {t : List Int} (h : (checkRun l t).1 = 0) : (wrongRules l).1 = 0 ∧ wrongText t = 0 := by
  have hr : (wrongRules l).1 = 0 := by
    by_cases hz : (wrongRules l).1 = 0
    · exact hz
    · rw [checkRun_rules hz] at h; exact absurd h hz
  exact ⟨hr, by rw [checkRun_text hr] at h; exact h⟩

section
variable (A : Option Addr) (n c : Nat) (l : List Rule) (X : Option Addr) (m d : Nat) (t : List Int) (a : Int) (w : World) (h : Rules w A n c l) (ht : Runes w X m d t)

set_option maxRecDepth 100000 in
set_option maxHeartbeats 2000000 in
include h ht in
theorem AnalyseReach_bad (hf : (whichF l t a).1 ≠ 0) :
    Calls Try.prog 5 #[.slice A n c, .slice X m d, .int .i64 a] w fun e w' => e = .returned (.bool true) ∧ Ext w w' := by
  have C1 := Lib.hid (alive9_any w)
  have C2 := Lib.hid (fun W (e : Ext w W) => Which_any A n c l X m d t a W (h.ext e) (ht.ext e))
  have hf' : ((whichF l t a).1 != 0) = true := by simpa using hf
  clear hf
  generalize (whichF l t a).1 = r1 at *
  generalize (whichF l t a).2 = r2 at *
  go_enter Try.func5, Try.ntmps5
  go_wp2_with (first
    | (go_at_call 38; refine C1.out.mono ?_; rintro e w1 ⟨rfl, x1⟩)
    | (go_at_call 34; refine (C2.out _ x1).mono ?_; rintro e w2 ⟨rfl, x2⟩; have e2 := (x1.trans x2).alloc (.cells #[.int .i64 r1, .int .i64 r2] 38)))
  go_ret
  exact ⟨rfl, e2⟩

set_option maxRecDepth 100000 in
set_option maxHeartbeats 2000000 in
include h ht in
theorem AnalyseReach_fine (k : Nat) (ek : a = k) (hf : (whichF l t a).1 = 0) :
    Calls Try.prog 5 #[.slice A n c, .slice X m d, .int .i64 a] w fun e w' => e = .returned (.bool true) ∧ Ext w w' := by
  subst ek
  obtain ⟨f0, hc0, _, hkm⟩ := whichF_zero hf
  obtain ⟨hr, hx⟩ := checkRun_zero hc0
  have hok := (wrongRules_zero hr).2.2
  have hm := (text_of hx).1
  rw [ht.len] at hm hkm
  have hdcap := ht.cap
  have C1 := Lib.hid (alive9_any w)
  have C2 := Lib.hid (fun W (e : Ext w W) => Which_any A n c l X m d t k W (h.ext e) (ht.ext e))
  have C3 := Lib.hid (fun W (e : Ext w W) => Reach_any A n c l W (h.ext e) hok)
  have hB := reachB_le l 0 0 hok (by omega) (by omega)
  have HW := Lib.hid (fun lo hi => which_window (l := l) (t := t) (a := k) (lo := lo) (hi := hi) hf)
  have C4 : Hid (∀ (lo hi : Nat), lo = k - (reachB l 0 0).1 - 1 → hi = min m (k + (reachB l 0 0).2 + 1) → ∀ W, Ext w W → ∀ x : Int, x = (k : Int) - lo →
      Calls Try.prog 34 #[.slice A n c, .slice (cutA X d lo 1) (hi - lo) (d - lo), .int .i64 x] W fun e w' => e = .returned (.tuple #[.int .i64 (whichV l t k), .agg #[.int .i64 0, .int .i64 0]]) ∧ Ext W w') := Lib.hid (by
    intro lo hi hlo hhi W e x hx
    subst hx
    have h1 := HW.out lo hi hlo (by rw [ht.len]; exact hhi)
    have h2 := Which_any A n c l (cutA X d lo 1) (hi - lo) (d - lo) ((t.take hi).drop lo) ((k : Int) - lo) W (h.ext e) ((ht.ext e).mid (by omega) (by omega))
    rw [(whichF_zero h1.1).1, h1.2] at h2
    exact h2)
  rw [f0] at C2
  clear hf f0 hc0 hr hx hok h ht HW
  generalize whichV l t k = q at *
  generalize (reachB l 0 0).1 = b at *
  generalize (reachB l 0 0).2 = f at *
  by_cases t1 : k < b + 1
  · have t1' : decide ((k : Int) - b - 1 < 0) = true := by simp; omega
    by_cases t2 : m < k + f + 1
    · have t2' : decide ((m : Int) < (k : Int) + f + 1) = true := by simp; omega
      have hs := fun W => run_cut_lh T_rune X m d 0 m 0 m (by omega) (by first | rfl | omega) (by omega) (by omega) W
      have C5 := Lib.hid (C4.out 0 m (by omega) (by omega)); clear C4 t1 t2
      simp only [Nat.sub_zero] at hs C5
      go_enter Try.func5, Try.ntmps5
      go_wp2_with (first
        | (go_at_call 38; refine C1.out.mono ?_; rintro e w1 ⟨rfl, x1⟩)
        | (go_at_call 34; ((with_reducible refine (C2.out _ x1).mono ?_); rintro e w2 ⟨rfl, x2⟩; have e2 := (x1.trans x2).alloc (.cells #[.int .i64 0, .int .i64 0] 38); have W2 := Wr.new w2 #[.int .i64 0, .int .i64 0] 38; have hb2 := (x1.trans x2).size; have K0 := Lib.hid (cell_new w2 #[.int .i64 0, .int .i64 0] 38 0 (.int .i64 0) rfl); have K1 := Lib.hid (cell_new w2 #[.int .i64 0, .int .i64 0] 38 1 (.int .i64 0) rfl)))
        | (go_at_call 39; refine (C3.out _ e2).mono ?_; rintro e w3 ⟨rfl, x3⟩; have e3 := e2.trans x3)
        | (go_at_call 34; ((with_reducible refine (C5.out _ e3 _ (by omega)).mono ?_); rintro e w4 ⟨rfl, x4⟩; have v0 := (x3.trans x4).cell K0.out; have v1 := (x3.trans x4).cell K1.out; have vz := (W2.ext (x3.trans x4)).2; have vl := W2.lt (x3.trans x4))))
      go_ret
      exact ⟨by simp, ext_set (ext_set (e3.trans x4) hb2 _ _) hb2 _ _⟩
    · have t2' : decide ((m : Int) < (k : Int) + f + 1) = false := by simp; omega
      have hs := fun W => run_cut_lh T_rune X m d 0 ((k : Int) + f + 1) 0 (k + f + 1) (by omega) (by first | rfl | omega) (by omega) (by omega) W
      have C5 := Lib.hid (C4.out 0 (k + f + 1) (by omega) (by omega)); clear C4 t1 t2
      simp only [Nat.sub_zero] at hs C5
      go_enter Try.func5, Try.ntmps5
      go_wp2_with (first
        | (go_at_call 38; refine C1.out.mono ?_; rintro e w1 ⟨rfl, x1⟩)
        | (go_at_call 34; ((with_reducible refine (C2.out _ x1).mono ?_); rintro e w2 ⟨rfl, x2⟩; have e2 := (x1.trans x2).alloc (.cells #[.int .i64 0, .int .i64 0] 38); have W2 := Wr.new w2 #[.int .i64 0, .int .i64 0] 38; have hb2 := (x1.trans x2).size; have K0 := Lib.hid (cell_new w2 #[.int .i64 0, .int .i64 0] 38 0 (.int .i64 0) rfl); have K1 := Lib.hid (cell_new w2 #[.int .i64 0, .int .i64 0] 38 1 (.int .i64 0) rfl)))
        | (go_at_call 39; refine (C3.out _ e2).mono ?_; rintro e w3 ⟨rfl, x3⟩; have e3 := e2.trans x3)
        | (go_at_call 34; ((with_reducible refine (C5.out _ e3 _ (by omega)).mono ?_); rintro e w4 ⟨rfl, x4⟩; have v0 := (x3.trans x4).cell K0.out; have v1 := (x3.trans x4).cell K1.out; have vz := (W2.ext (x3.trans x4)).2; have vl := W2.lt (x3.trans x4))))
      go_ret
      exact ⟨by simp, ext_set (ext_set (e3.trans x4) hb2 _ _) hb2 _ _⟩
  · have t1' : decide ((k : Int) - b - 1 < 0) = false := by simp; omega
    have t1n : b + 1 ≤ k := by omega
    by_cases t2 : m < k + f + 1
    · have t2' : decide ((m : Int) < (k : Int) + f + 1) = true := by simp; omega
      have hs := fun W => run_cut_lh T_rune X m d ((k : Int) - b - 1) m (k - b - 1) m (by omega) (by first | rfl | omega) (by omega) (by omega) W
      have C5 := Lib.hid (C4.out (k - b - 1) m (by omega) (by omega)); clear C4 t1 t2
      go_enter Try.func5, Try.ntmps5
      go_wp2_with (first
        | (go_at_call 38; refine C1.out.mono ?_; rintro e w1 ⟨rfl, x1⟩)
        | (go_at_call 34; ((with_reducible refine (C2.out _ x1).mono ?_); rintro e w2 ⟨rfl, x2⟩; have e2 := (x1.trans x2).alloc (.cells #[.int .i64 0, .int .i64 0] 38); have W2 := Wr.new w2 #[.int .i64 0, .int .i64 0] 38; have hb2 := (x1.trans x2).size; have K0 := Lib.hid (cell_new w2 #[.int .i64 0, .int .i64 0] 38 0 (.int .i64 0) rfl); have K1 := Lib.hid (cell_new w2 #[.int .i64 0, .int .i64 0] 38 1 (.int .i64 0) rfl)))
        | (go_at_call 39; refine (C3.out _ e2).mono ?_; rintro e w3 ⟨rfl, x3⟩; have e3 := e2.trans x3)
        | (go_at_call 34; ((with_reducible refine (C5.out _ e3 _ (by omega)).mono ?_); rintro e w4 ⟨rfl, x4⟩; have v0 := (x3.trans x4).cell K0.out; have v1 := (x3.trans x4).cell K1.out; have vz := (W2.ext (x3.trans x4)).2; have vl := W2.lt (x3.trans x4))))
      go_ret
      exact ⟨by simp, ext_set (ext_set (e3.trans x4) hb2 _ _) hb2 _ _⟩
    · have t2' : decide ((m : Int) < (k : Int) + f + 1) = false := by simp; omega
      have hs := fun W => run_cut_lh T_rune X m d ((k : Int) - b - 1) ((k : Int) + f + 1) (k - b - 1) (k + f + 1) (by omega) (by first | rfl | omega) (by omega) (by omega) W
      have C5 := Lib.hid (C4.out (k - b - 1) (k + f + 1) (by omega) (by omega)); clear C4 t1 t2
      go_enter Try.func5, Try.ntmps5
      go_wp2_with (first
        | (go_at_call 38; refine C1.out.mono ?_; rintro e w1 ⟨rfl, x1⟩)
        | (go_at_call 34; ((with_reducible refine (C2.out _ x1).mono ?_); rintro e w2 ⟨rfl, x2⟩; have e2 := (x1.trans x2).alloc (.cells #[.int .i64 0, .int .i64 0] 38); have W2 := Wr.new w2 #[.int .i64 0, .int .i64 0] 38; have hb2 := (x1.trans x2).size; have K0 := Lib.hid (cell_new w2 #[.int .i64 0, .int .i64 0] 38 0 (.int .i64 0) rfl); have K1 := Lib.hid (cell_new w2 #[.int .i64 0, .int .i64 0] 38 1 (.int .i64 0) rfl)))
        | (go_at_call 39; refine (C3.out _ e2).mono ?_; rintro e w3 ⟨rfl, x3⟩; have e3 := e2.trans x3)
        | (go_at_call 34; ((with_reducible refine (C5.out _ e3 _ (by omega)).mono ?_); rintro e w4 ⟨rfl, x4⟩; have v0 := (x3.trans x4).cell K0.out; have v1 := (x3.trans x4).cell K1.out; have vz := (W2.ext (x3.trans x4)).2; have vl := W2.lt (x3.trans x4))))
      go_ret
      exact ⟨by simp, ext_set (ext_set (e3.trans x4) hb2 _ _) hb2 _ _⟩

include h ht in
theorem AnalyseReach_any : Calls Try.prog 5 #[.slice A n c, .slice X m d, .int .i64 a] w fun e w' => e = .returned (.bool true) ∧ Ext w w' := by
  by_cases hf : (whichF l t a).1 = 0
  · obtain ⟨k, rfl⟩ := Int.eq_ofNat_of_zero_le (whichF_zero hf).2.2.1
    exact AnalyseReach_fine A n c l X m d t k w h ht k rfl hf
  · exact AnalyseReach_bad A n c l X m d t a w h ht hf
end

end Go.Proofs.Ytfdkbhbnldcbmaa
