/- Plain: how many runes a set has. -/
import Derived.Test.YtfdkbhbnldcbmaaW36
import Derived.Test.YtfdkbhbnldcbmaaPl9
namespace Go.Proofs.Ytfdkbhbnldcbmaa
set_option linter.unusedVariables false
set_option linter.unusedSimpArgs false

/-- how many of the first N runes -/
def cntN : Nat → (Int → Bool) → Nat
  | 0, _ => 0
  | N + 1, p => cntN N p + (if p (N : Int) then 1 else 0)
theorem cntN_zero (p : Int → Bool) : cntN 0 p = 0 := rfl
theorem cntN_succ (N : Nat) (p : Int → Bool) : cntN (N + 1) p = cntN N p + (if p (N : Int) then 1 else 0) := rfl
attribute [irreducible] cntN
theorem cntN_congr (N : Nat) (p q : Int → Bool) (h : ∀ r : Int, 0 ≤ r → r < N → p r = q r) : cntN N p = cntN N q := by
  induction N with
  | zero => rw [cntN_zero, cntN_zero]
  | succ N ih => rw [cntN_succ, cntN_succ, ih (fun r h0 h1 => h r h0 (by omega)), h N (by omega) (by omega)]
theorem cntN_or (N : Nat) (p q : Int → Bool) : cntN N (fun r => p r || q r) + cntN N (fun r => p r && q r) = cntN N p + cntN N q := by
  induction N with
  | zero => simp only [cntN_zero]
  | succ N ih =>
    simp only [cntN_succ]
    cases p (N : Int) <;> cases q (N : Int) <;> simp <;> omega
theorem cntN_not (N : Nat) (p : Int → Bool) : cntN N p + cntN N (fun r => !p r) = N := by
  induction N with
  | zero => simp only [cntN_zero]
  | succ N ih =>
    simp only [cntN_succ]
    cases p (N : Int) <;> simp <;> omega
theorem cntN_false (N : Nat) : cntN N (fun _ => false) = 0 := by
  induction N with
  | zero => rw [cntN_zero]
  | succ N ih => rw [cntN_succ, ih]; simp
theorem cntN_and_le (N : Nat) (p q : Int → Bool) : cntN N (fun r => p r && q r) ≤ cntN N p := by
  induction N with
  | zero => simp only [cntN_zero]; omega
  | succ N ih =>
    simp only [cntN_succ]
    cases p (N : Int) <;> cases q (N : Int) <;> simp <;> omega
theorem cntN_sub (N : Nat) (p q : Int → Bool) : cntN N (fun r => p r && q r) = cntN N p ↔ ∀ r : Int, 0 ≤ r → r < N → p r = true → q r = true := by
  induction N with
  | zero => simp only [cntN_zero]; exact ⟨fun _ r h0 h1 => by omega, fun _ => trivial⟩
  | succ N ih =>
    have hle := cntN_and_le N p q
    simp only [cntN_succ]
    constructor
    · intro h r h0 h1 hp
      have hN : p (N : Int) = true → q (N : Int) = true := by
        intro hp; cases hq : q (N : Int) with
        | true => rfl
        | false => rw [hp, hq] at h; simp at h; omega
      have hrest : cntN N (fun r => p r && q r) = cntN N p := by
        cases hp : p (N : Int) <;> cases hq : q (N : Int) <;> rw [hp, hq] at h <;> simp at h <;> omega
      by_cases hr : r = N
      · subst hr; exact hN hp
      · exact (ih.1 hrest) r h0 (by omega) hp
    · intro h
      rw [ih.2 (fun r h0 h1 hp => h r h0 (by omega) hp)]
      cases hp : p (N : Int) with
      | false => simp
      | true => rw [h N (by omega) (by omega) hp]; simp
theorem cntN_span (lo hi : Int) (h0 : 0 ≤ lo) (h1 : lo ≤ hi + 1) (N : Nat) : (cntN N (fun r => decide (lo ≤ r) && decide (r ≤ hi)) : Int) = max 0 (min (N : Int) (hi + 1) - lo) := by
  induction N with
  | zero => rw [cntN_zero]; omega
  | succ N ih =>
    rw [cntN_succ]
    by_cases h : lo ≤ (N : Int) ∧ (N : Int) ≤ hi
    · rw [if_pos (by simp; exact h)]; omega
    · rw [if_neg (by simp; intro a; have := fun b => h ⟨a, b⟩; omega)]; omega
def cnt (p : Int → Bool) : Int := (cntN 1114112 p : Nat)
theorem count_cnt : ∀ {l : List Sp}, Canon l → countL l = cnt (has l)
  | [], _ => by
    unfold cnt
    rw [cntN_congr _ _ (fun _ => false) (fun r _ _ => has_nil r), cntN_false]; rfl
  | x :: l, h => by
    have ih := count_cnt h.tail
    have hx := h.rng x (List.mem_cons_self ..)
    unfold cnt at ih ⊢
    have h1 := cntN_or 1114112 (inSp x) (has l)
    have h2 : cntN 1114112 (fun r => inSp x r && has l r) = 0 := by
      rw [cntN_congr _ _ (fun _ => false), cntN_false]
      intro r _ _
      cases hl : has l r with
      | false => simp
      | true =>
        have hb := h.behind hl
        have : inSp x r = false := by cases hi : inSp x r with
          | false => rfl
          | true => rw [inSp_iff] at hi; omega
        rw [this]; rfl
    have h3 : (cntN 1114112 (inSp x) : Int) = x.hi - x.lo + 1 := by
      have := cntN_span x.lo x.hi hx.1 (by omega) 1114112
      have e : inSp x = fun r => decide (x.lo ≤ r) && decide (r ≤ x.hi) := rfl
      rw [e, this]; omega
    have h4 : has (x :: l) = fun r => inSp x r || has l r := rfl
    rw [countL_cons, ih, h4]
    omega
theorem cnt_not {l : List Sp} (h : Canon l) : countL l + countL (notL l) = 1114112 := by
  rw [count_cnt h, count_cnt (not_canon h)]
  have h1 := cntN_not 1114112 (has l)
  have h2 : cntN 1114112 (has (notL l)) = cntN 1114112 (fun r => !has l r) := cntN_congr _ _ _ (fun r h0 h1 => by
    rw [not_has h, decide_eq_true (by omega), Bool.true_and])
  unfold cnt
  rw [h2]; omega
theorem cnt_or {a b u m : List Sp} (ha : Canon a) (hb : Canon b) (hu : Canon u) (hm : Canon m) (eu : ∀ r, has u r = (has a r || has b r)) (em : ∀ r, has m r = (has a r && has b r)) : countL u + countL m = countL a + countL b := by
  rw [count_cnt ha, count_cnt hb, count_cnt hu, count_cnt hm]
  have := cntN_or 1114112 (has a) (has b)
  have e1 : has u = fun r => has a r || has b r := funext eu
  have e2 : has m = fun r => has a r && has b r := funext em
  unfold cnt
  rw [e1, e2]; omega
theorem canon_apart {l : List Sp} (h : Canon l) {y z : Sp} (hy : y ∈ l) (hz : z ∈ l) : y = z ∨ y.hi + 1 < z.lo ∨ z.hi + 1 < y.lo := by
  have hp := h.pw
  clear h
  induction l with
  | nil => cases hy
  | cons x l ih =>
    obtain ⟨h1, h2⟩ := List.pairwise_cons.1 hp
    rcases List.mem_cons.1 hy with rfl | hy2 <;> rcases List.mem_cons.1 hz with rfl | hz2
    · exact .inl rfl
    · exact .inr (.inl (h1 _ hz2))
    · exact .inr (.inr (h1 _ hy2))
    · exact ih hy2 hz2 h2
theorem subSet_of {a b : List Sp} (ha : Canon a) (hb : Canon b) (h : ∀ r, has a r = true → has b r = true) : subSet a b = true := by
  unfold subSet
  rw [List.all_eq_true]
  intro x hx
  have hr := ha.rng x hx
  have hin : ∀ r, x.lo ≤ r → r ≤ x.hi → ∃ y ∈ b, y.lo ≤ r ∧ r ≤ y.hi := fun r h1 h2 => by
    have : has b r = true := h r (by unfold has; exact List.any_eq_true.2 ⟨x, hx, inSp_iff.2 ⟨h1, h2⟩⟩)
    unfold has at this
    obtain ⟨y, hy, hyr⟩ := List.any_eq_true.1 this
    exact ⟨y, hy, inSp_iff.1 hyr⟩
  obtain ⟨y, hy, h1, h2⟩ := hin x.lo (by omega) hr.2.1
  rw [List.any_eq_true]
  refine ⟨y, hy, ?_⟩
  unfold subSp
  by_cases hh : x.hi ≤ y.hi
  · simp; omega
  · exfalso
    obtain ⟨z, hz, h3, h4⟩ := hin (y.hi + 1) (by omega) (by omega)
    rcases canon_apart hb hy hz with rfl | hc | hc <;> omega
theorem subSet_count {a b m : List Sp} (ha : Canon a) (hb : Canon b) (hm : Canon m) (em : ∀ r, has m r = (has a r && has b r)) : subSet a b = (countL m == countL a) := by
  have e2 : has m = fun r => has a r && has b r := funext em
  have h := cntN_sub 1114112 (has a) (has b)
  rw [count_cnt ha, count_cnt hm]
  unfold cnt
  rw [e2, Bool.eq_iff_iff]
  constructor
  · intro hs
    have := h.2 (fun r _ _ hr => subSet_has hs hr)
    rw [this]; simp
  · intro hs
    have hs' : cntN 1114112 (fun r => has a r && has b r) = cntN 1114112 (has a) := by have := eq_of_beq hs; omega
    refine subSet_of ha hb fun r hr => ?_
    have hd : 0 ≤ r ∧ r ≤ 1114111 := by
      unfold has at hr
      obtain ⟨x, hx, hxr⟩ := List.any_eq_true.1 hr
      have := ha.rng x hx
      rw [inSp_iff] at hxr
      omega
    exact h.1 hs' r (by omega) (by omega) hr
theorem countL_pos {l : List Sp} (h : Canon l) : 0 ≤ countL l := by rw [count_cnt h]; unfold cnt; omega
theorem nth_out : ∀ {l : List Sp} {k : Int}, Canon l → countL l ≤ k → nthFrom l k = (0, 6)
  | [], _, _, _ => rfl
  | x :: l, k, h, hk => by
    rw [countL_cons] at hk
    have := countL_pos h.tail
    have hx := h.rng x (List.mem_cons_self ..)
    rw [nthFrom_no (by omega)]
    exact nth_out h.tail (by omega)
theorem nth_in : ∀ {l : List Sp} {k : Int}, Canon l → 0 ≤ k → k < countL l → ∃ r, nthFrom l k = (r, 0) ∧ has l r = true ∧ 0 ≤ r ∧ r ≤ 1114111 ∧ cnt (fun n => has l n && decide (n ≤ r)) = k + 1
  | [], k, _, h0, hk => by simp [countL] at hk; omega
  | x :: l, k, h, h0, hk => by
    rw [countL_cons] at hk
    have hx := h.rng x (List.mem_cons_self ..)
    by_cases hlt : k < x.hi - x.lo + 1
    · refine ⟨x.lo + k, nthFrom_yes hlt, ?_, by omega, by omega, ?_⟩
      · rw [has_cons, inSp_iff.2 ⟨by omega, by omega⟩, Bool.true_or]
      · have := cntN_span x.lo (x.lo + k) hx.1 (by omega) 1114112
        unfold cnt
        rw [cntN_congr _ _ (fun r => decide (x.lo ≤ r) && decide (r ≤ x.lo + k)), this]
        · omega
        · intro r _ _
          rw [has_cons, Bool.eq_iff_iff]
          simp only [Bool.and_eq_true, Bool.or_eq_true, decide_eq_true_eq, inSp_iff]
          constructor
          · rintro ⟨h1 | h1, h2⟩
            · omega
            · have := h.behind h1; omega
          · intro h1; exact ⟨.inl (by omega), h1.2⟩
    · obtain ⟨r, e, hr, r0, r1, hc⟩ := nth_in h.tail (k := k - (x.hi - x.lo + 1)) (by omega) (by omega)
      refine ⟨r, by rw [nthFrom_no hlt, e], by rw [has_cons, hr, Bool.or_true], r0, r1, ?_⟩
      have hb := h.behind hr
      unfold cnt at hc ⊢
      have h1 := cntN_or 1114112 (inSp x) (fun n => has l n && decide (n ≤ r))
      have h2 : cntN 1114112 (fun n => inSp x n && (has l n && decide (n ≤ r))) = 0 := by
        rw [cntN_congr _ _ (fun _ => false), cntN_false]
        intro n _ _
        cases hl : has l n with
        | false => simp
        | true =>
          have hb := h.behind hl
          have : inSp x n = false := by cases hi : inSp x n with
            | false => rfl
            | true => rw [inSp_iff] at hi; omega
          rw [this]; rfl
      have h3 : (cntN 1114112 (inSp x) : Int) = x.hi - x.lo + 1 := by
        have := cntN_span x.lo x.hi hx.1 (by omega) 1114112
        have e : inSp x = fun r => decide (x.lo ≤ r) && decide (r ≤ x.hi) := rfl
        rw [e, this]; omega
      rw [cntN_congr _ (fun n => has (x :: l) n && decide (n ≤ r)) (fun n => inSp x n || (has l n && decide (n ≤ r)))]
      · omega
      · intro n _ _
        rw [has_cons]
        cases hi : inSp x n with
        | false => simp
        | true => rw [inSp_iff] at hi; rw [decide_eq_true (by omega)]; simp
theorem nthL_in {l : List Sp} {k : Int} (h : Good l) (h0 : 0 ≤ k) : nthL l k = nthFrom l k := by
  unfold nthL; rw [if_neg (by simp [wrong_of_good h]), if_neg (by omega)]
theorem nthL_neg {l : List Sp} {k : Int} (h : Good l) (h0 : k < 0) : nthL l k = (0, 3) := by
  unfold nthL; rw [if_neg (by simp [wrong_of_good h]), if_pos h0]
theorem countV_good {l : List Sp} (h : Good l) : countV l = countL l := by
  unfold countV; rw [if_neg (by simp [wrong_of_good h])]

end Go.Proofs.Ytfdkbhbnldcbmaa
