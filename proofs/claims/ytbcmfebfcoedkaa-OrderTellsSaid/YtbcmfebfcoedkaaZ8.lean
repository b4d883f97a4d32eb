/- Walks: classes of marks, comparing by them, and sorting marks in a row. -/
import Derived.Test.YtbcmfebfcoedkaaZ7r
import Derived.Test.YtbcmfebfcoedkaaZ10
import Derived.BigQuiet
namespace Go.Proofs.Ytbcmfebfcoedkaa
open Go.RowKit Go.Sort
set_option linter.unusedVariables false
set_option linter.unusedSimpArgs false

theorem clsOf_none {r : Int} (h1 : ¬ r = 807) (h2 : ¬ r = 808) (h3 : ¬ r = 803) (h4 : ¬ r = 768) (h5 : ¬ r = 769) (h6 : ¬ r = 770) (h7 : ¬ r = 771) (h8 : ¬ r = 776) (h9 : ¬ r = 778) (h10 : ¬ r = 780) : clsOf r = 0 := by
  unfold clsOf; simp [h1, h2, h3, h4, h5, h6, h7, h8, h9, h10]

set_option maxHeartbeats 1600000 in
theorem Class_any (r : Int) (w : World) : Calls Try.prog 7 #[.int .i32 r] w fun e w' => e = .returned (.int .i64 (clsOf r)) ∧ w = w' := by
  have closed : ∀ x v : Int, clsOf x = v → (Calls Try.prog 7 #[.int .i32 x] w fun e w' => e = .returned (.int .i64 v) ∧ w = w') → Calls Try.prog 7 #[.int .i32 x] w fun e w' => e = .returned (.int .i64 (clsOf x)) ∧ w = w' := fun x v e h => by rw [e]; exact h
  by_cases h1 : r = 807
  · subst h1; refine closed _ 202 rfl ?_; go_enter Try.func7, Try.ntmps7; go_wp2; go_ret; exact ⟨rfl, rfl⟩
  by_cases h2 : r = 808
  · subst h2; refine closed _ 202 rfl ?_; go_enter Try.func7, Try.ntmps7; go_wp2; go_ret; exact ⟨rfl, rfl⟩
  by_cases h3 : r = 803
  · subst h3; refine closed _ 220 rfl ?_; go_enter Try.func7, Try.ntmps7; go_wp2; go_ret; exact ⟨rfl, rfl⟩
  by_cases h4 : r = 768
  · subst h4; refine closed _ 230 rfl ?_; go_enter Try.func7, Try.ntmps7; go_wp2; go_ret; exact ⟨rfl, rfl⟩
  by_cases h5 : r = 769
  · subst h5; refine closed _ 230 rfl ?_; go_enter Try.func7, Try.ntmps7; go_wp2; go_ret; exact ⟨rfl, rfl⟩
  by_cases h6 : r = 770
  · subst h6; refine closed _ 230 rfl ?_; go_enter Try.func7, Try.ntmps7; go_wp2; go_ret; exact ⟨rfl, rfl⟩
  by_cases h7 : r = 771
  · subst h7; refine closed _ 230 rfl ?_; go_enter Try.func7, Try.ntmps7; go_wp2; go_ret; exact ⟨rfl, rfl⟩
  by_cases h8 : r = 776
  · subst h8; refine closed _ 230 rfl ?_; go_enter Try.func7, Try.ntmps7; go_wp2; go_ret; exact ⟨rfl, rfl⟩
  by_cases h9 : r = 778
  · subst h9; refine closed _ 230 rfl ?_; go_enter Try.func7, Try.ntmps7; go_wp2; go_ret; exact ⟨rfl, rfl⟩
  by_cases h10 : r = 780
  · subst h10; refine closed _ 230 rfl ?_; go_enter Try.func7, Try.ntmps7; go_wp2; go_ret; exact ⟨rfl, rfl⟩
  refine closed _ 0 (clsOf_none h1 h2 h3 h4 h5 h6 h7 h8 h9 h10) ?_
  clear closed
  go_enter Try.func7, Try.ntmps7
  go_wp2
  go_ret
  exact ⟨rfl, rfl⟩

set_option maxHeartbeats 1600000 in
theorem refClass_any (r : Int) (w : World) : Calls Try.prog 8 #[.int .i32 r] w fun e w' => e = .returned (.int .i64 (clsOf r)) ∧ w = w' := by
  have closed : ∀ x v : Int, clsOf x = v → (Calls Try.prog 8 #[.int .i32 x] w fun e w' => e = .returned (.int .i64 v) ∧ w = w') → Calls Try.prog 8 #[.int .i32 x] w fun e w' => e = .returned (.int .i64 (clsOf x)) ∧ w = w' := fun x v e h => by rw [e]; exact h
  by_cases h1 : r = 807
  · subst h1; refine closed _ 202 rfl ?_; go_enter Try.func8, Try.ntmps8; go_wp2; go_ret; exact ⟨rfl, rfl⟩
  by_cases h2 : r = 808
  · subst h2; refine closed _ 202 rfl ?_; go_enter Try.func8, Try.ntmps8; go_wp2; go_ret; exact ⟨rfl, rfl⟩
  by_cases h3 : r = 803
  · subst h3; refine closed _ 220 rfl ?_; go_enter Try.func8, Try.ntmps8; go_wp2; go_ret; exact ⟨rfl, rfl⟩
  by_cases h8 : r = 776
  · subst h8; refine closed _ 230 rfl ?_; go_enter Try.func8, Try.ntmps8; go_wp2; go_ret; exact ⟨rfl, rfl⟩
  by_cases h9 : r = 778
  · subst h9; refine closed _ 230 rfl ?_; go_enter Try.func8, Try.ntmps8; go_wp2; go_ret; exact ⟨rfl, rfl⟩
  by_cases h10 : r = 780
  · subst h10; refine closed _ 230 rfl ?_; go_enter Try.func8, Try.ntmps8; go_wp2; go_ret; exact ⟨rfl, rfl⟩
  have q1 : (r == 807) = false := by simp [h1]
  have q2 : (r == 808) = false := by simp [h2]
  have q3 : (r == 807 || r == 808) = false := by simp [h1, h2]
  by_cases h4 : 768 ≤ r
  · by_cases h5 : r ≤ 771
    · have q4 : (decide (768 ≤ r) && decide (r ≤ 771)) = true := by simp [h4, h5]
      refine closed _ 230 (by unfold clsOf; rw [if_neg (by omega), if_neg (by omega), if_pos (by omega)]) ?_
      clear closed
      go_enter Try.func8, Try.ntmps8
      go_wp2
      go_ret
      exact ⟨rfl, rfl⟩
    · have q4 : (decide (768 ≤ r) && decide (r ≤ 771)) = false := by simp [h5]
      refine closed _ 0 (clsOf_none h1 h2 h3 (by omega) (by omega) (by omega) (by omega) h8 h9 h10) ?_
      clear closed
      go_enter Try.func8, Try.ntmps8
      go_wp2
      go_ret
      exact ⟨rfl, rfl⟩
  · have q4 : (decide (768 ≤ r) && decide (r ≤ 771)) = false := by simp [h4]
    refine closed _ 0 (clsOf_none h1 h2 h3 (by omega) (by omega) (by omega) (by omega) h8 h9 h10) ?_
    clear closed
    go_enter Try.func8, Try.ntmps8
    go_wp2
    go_ret
    exact ⟨rfl, rfl⟩

theorem isNaN_int (x : Int) (w : World) : Calls Try.prog 52 #[.int .i64 x] w fun e w' => e = .returned (.bool false) ∧ w = w' := by
  go_enter Try.func52, Try.ntmps52
  go_wp2
  go_ret
  exact ⟨by simp, rfl⟩

set_option maxHeartbeats 800000 in
theorem Compare_int (x y : Int) (w : World) : Calls Try.prog 45 #[.int .i64 x, .int .i64 y] w fun e w' => e = .returned (.int .i64 (cmpI x y)) ∧ w = w' := by
  by_cases h : x < y
  · have e : cmpI x y = -1 := by unfold cmpI; rw [if_pos h]
    rw [e]
    go_enter Try.func45, Try.ntmps45
    go_wp2_with (go_at_call 52; refine (isNaN_int _ _).mono ?_; rintro e w' ⟨rfl, rfl⟩)
    go_ret
    exact ⟨rfl, rfl⟩
  · by_cases h2 : y < x
    · have e : cmpI x y = 1 := by unfold cmpI; rw [if_neg h, if_pos h2]
      rw [e]
      go_enter Try.func45, Try.ntmps45
      go_wp2_with (go_at_call 52; refine (isNaN_int _ _).mono ?_; rintro e w' ⟨rfl, rfl⟩)
      go_ret
      exact ⟨rfl, rfl⟩
    · have e : cmpI x y = 0 := by unfold cmpI; rw [if_neg h, if_neg h2]
      rw [e]
      go_enter Try.func45, Try.ntmps45
      go_wp2_with (go_at_call 52; refine (isNaN_int _ _).mono ?_; rintro e w' ⟨rfl, rfl⟩)
      go_ret
      exact ⟨rfl, rfl⟩

theorem sortedAt_any (x y : Int) (w : World) : Calls Try.prog 44 #[.int .i32 x, .int .i32 y] w fun e w' => e = .returned (.int .i64 (cmpC x y)) ∧ w = w' := by
  have C1 := Lib.hid (Class_any x w)
  have C2 := Lib.hid (Class_any y w)
  have C3 := Lib.hid (Compare_int (clsOf x) (clsOf y) w)
  have HE := Lib.hid (show cmpC x y = cmpI (clsOf x) (clsOf y) from rfl)
  generalize clsOf x = u at *
  generalize clsOf y = v at *
  go_enter Try.func44, Try.ntmps44
  go_wp2_with (first
    | (go_at_call 7; ((with_reducible refine C1.out.mono ?_); rintro e w' ⟨rfl, rfl⟩))
    | (go_at_call 7; ((with_reducible refine C2.out.mono ?_); rintro e w' ⟨rfl, rfl⟩))
    | (go_at_call 45; ((with_reducible refine C3.out.mono ?_); rintro e w' ⟨rfl, rfl⟩)))
  go_ret
  rw [HE.out]
  exact ⟨rfl, rfl⟩

theorem sortedAt_cmp (w0 : World) (b off : Nat) (L0 : List Int) (ok : Int → Prop) : CmpX Try.prog 44 #[] .i32 cmpC w0 b off L0 ok :=
  fun L W _ x y _ _ => (sortedAt_any x y W).mono fun e w' ⟨h1, h2⟩ => ⟨h1, by rw [h2]; exact Ext.refl _⟩

end Go.Proofs.Ytbcmfebfcoedkaa
