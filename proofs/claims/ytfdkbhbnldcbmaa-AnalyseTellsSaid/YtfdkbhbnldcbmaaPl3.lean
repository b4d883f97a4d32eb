/- Plain: how many runes a set has. Plain laws of the sets that the document builds out of edges. No program in sight. -/
import Derived.Test.YtfdkbhbnldcbmaaW36
import Derived.Test.YtfdkbhbnldcbmaaPl9
namespace Go.Proofs.Ytfdkbhbnldcbmaa
set_option linter.unusedVariables false
set_option linter.unusedSimpArgs false

/-- how many of the first N runes -/
def cntN : Nat → (Int → Bool) → Nat
  | 0, _ => 0
  | N + 1, p => cntN N p + (if p (N : Int) then 1 else 0)
theorem cntN_zero (p : Int → Bool) : cntN 0 p = 0 := rfl
theorem cntN_succ (N : Nat) (p : Int → Bool) : cntN (N + 1) p = cntN N p + (if p (N : Int) then 1 else 0) := rfl
attribute [irreducible] cntN
theorem cntN_congr (N : Nat) (p q : Int → Bool) (h : ∀ r : Int, 0 ≤ r → r < N → p r = q r) : cntN N p = cntN N q := by
  induction N with
  | zero => rw [cntN_zero, cntN_zero]
  | succ N ih => rw [cntN_succ, cntN_succ, ih (fun r h0 h1 => h r h0 (by omega)), h N (by omega) (by omega)]
theorem cntN_or (N : Nat) (p q : Int → Bool) : cntN N (fun r => p r || q r) + cntN N (fun r => p r && q r) = cntN N p + cntN N q := by
  induction N with
  | zero => simp only [cntN_zero]
  | succ N ih =>
    simp only [cntN_succ]
    cases p (N : Int) <;> cases q (N : Int) <;> simp <;> omega
theorem cntN_not (N : Nat) (p : Int → Bool) : cntN N p + cntN N (fun r => !p r) = N := by
  induction N with
  | zero => simp only [cntN_zero]
  | succ N ih =>
    simp only [cntN_succ]
    cases p (N : Int) <;> simp <;> omega
theorem cntN_false (N : Nat) : cntN N (fun _ => false) = 0 := by
  induction N with
  | zero => rw [cntN_zero]
  | succ N ih => rw [cntN_succ, ih]; simp
theorem cntN_and_le (N : Nat) (p q : Int → Bool) : cntN N (fun r => p r && q r) ≤ cntN N p := by
  induction N with
  | zero => simp only [cntN_zero]; omega
  | succ N ih =>
    simp only [cntN_succ]
    cases p (N : Int) <;> cases q (N : Int) <;> simp <;> omega
theorem cntN_sub (N : Nat) (p q : Int → Bool) : cntN N (fun r => p r && q r) = cntN N p ↔ ∀ r : Int, 0 ≤ r → r < N → p r = true → q r = true := by
  induction N with
  | zero => simp only [cntN_zero]; exact ⟨fun _ r h0 h1 => by omega, fun _ => trivial⟩
  | succ N ih =>
    have hle := cntN_and_le N p q
    simp only [cntN_succ]
    constructor
    · intro h r h0 h1 hp
      have hN : p (N : Int) = true → q (N : Int) = true := by
        intro hp; cases hq : q (N : Int) with
        | true => rfl
        | false => rw [hp, hq] at h; simp at h; omega
      have hrest : cntN N (fun r => p r && q r) = cntN N p := by
        cases hp : p (N : Int) <;> cases hq : q (N : Int) <;> rw [hp, hq] at h <;> simp at h <;> omega
      by_cases hr : r = N
      · subst hr; exact hN hp
      · exact (ih.1 hrest) r h0 (by omega) hp
    · intro h
      rw [ih.2 (fun r h0 h1 hp => h r h0 (by omega) hp)]
      cases hp : p (N : Int) with
      | false => simp
      | true => rw [h N (by omega) (by omega) hp]; simp
theorem cntN_span (lo hi : Int) (h0 : 0 ≤ lo) (h1 : lo ≤ hi + 1) (N : Nat) : (cntN N (fun r => decide (lo ≤ r) && decide (r ≤ hi)) : Int) = max 0 (min (N : Int) (hi + 1) - lo) := by
  induction N with
  | zero => rw [cntN_zero]; omega
  | succ N ih =>
    rw [cntN_succ]
    by_cases h : lo ≤ (N : Int) ∧ (N : Int) ≤ hi
    · rw [if_pos (by simp; exact h)]; omega
    · rw [if_neg (by simp; intro a; have := fun b => h ⟨a, b⟩; omega)]; omega
def cnt (p : Int → Bool) : Int := (cntN 1114112 p : Nat)
theorem count_cnt : ∀ {l : List Sp}, Canon l → countL l = cnt (has l)
  | [], _ => by
    unfold cnt
    rw [cntN_congr _ _ (fun _ => false) (fun r _ _ => has_nil r), cntN_false]; rfl
  | x :: l, h => by
    have ih := count_cnt h.tail
    have hx := h.rng x (List.mem_cons_self ..)
    unfold cnt at ih ⊢
    have h1 := cntN_or 1114112 (inSp x) (has l)
    have h2 : cntN 1114112 (fun r => inSp x r && has l r) = 0 := by
      rw [cntN_congr _ _ (fun _ => false), cntN_false]
      intro r _ _
      cases hl : has l r with
      | false => simp
      | true =>
        have hb := h.behind hl
        have : inSp x r = false := by cases hi : inSp x r with
          | false => rfl
          | true => rw [inSp_iff] at hi; omega
        rw [this]; rfl
    have h3 : (cntN 1114112 (inSp x) : Int) = x.hi - x.lo + 1 := by
      have := cntN_span x.lo x.hi hx.1 (by omega) 1114112
      have e : inSp x = fun r => decide (x.lo ≤ r) && decide (r ≤ x.hi) := rfl
      rw [e, this]; omega
    have h4 : has (x :: l) = fun r => inSp x r || has l r := rfl
    rw [countL_cons, ih, h4]
    omega
theorem cnt_not {l : List Sp} (h : Canon l) : countL l + countL (notL l) = 1114112 := by
  rw [count_cnt h, count_cnt (not_canon h)]
  have h1 := cntN_not 1114112 (has l)
  have h2 : cntN 1114112 (has (notL l)) = cntN 1114112 (fun r => !has l r) := cntN_congr _ _ _ (fun r h0 h1 => by
    rw [not_has h, decide_eq_true (by omega), Bool.true_and])
  unfold cnt
  rw [h2]; omega
theorem cnt_or {a b u m : List Sp} (ha : Canon a) (hb : Canon b) (hu : Canon u) (hm : Canon m) (eu : ∀ r, has u r = (has a r || has b r)) (em : ∀ r, has m r = (has a r && has b r)) : countL u + countL m = countL a + countL b := by
  rw [count_cnt ha, count_cnt hb, count_cnt hu, count_cnt hm]
  have := cntN_or 1114112 (has a) (has b)
  have e1 : has u = fun r => has a r || has b r := funext eu
  have e2 : has m = fun r => has a r && has b r := funext em
  unfold cnt
  rw [e1, e2]; omega
theorem canon_apart {l : List Sp} (h : Canon l) {y z : Sp} (hy : y ∈ l) (hz : z ∈ l) : y = z ∨ y.hi + 1 < z.lo ∨ z.hi + 1 < y.lo := by
  have hp := h.pw
  clear h
  induction l with
  | nil => cases hy
  | cons x l ih =>
    obtain ⟨h1, h2⟩ := List.pairwise_cons.1 hp
    rcases List.mem_cons.1 hy with rfl | hy2 <;> rcases List.mem_cons.1 hz with rfl | hz2
    · exact .inl rfl
    · exact .inr (.inl (h1 _ hz2))
    · exact .inr (.inr (h1 _ hy2))
    · exact ih hy2 hz2 h2
theorem subSet_of {a b : List Sp} (ha : Canon a) (hb : Canon b) (h : ∀ r, has a r = true → has b r = true) : subSet a b = true := by
  unfold subSet
  rw [List.all_eq_true]
  intro x hx
  have hr := ha.rng x hx
  have hin : ∀ r, x.lo ≤ r → r ≤ x.hi → ∃ y ∈ b, y.lo ≤ r ∧ r ≤ y.hi := fun r h1 h2 => by
    have : has b r = true := h r (by unfold has; exact List.any_eq_true.2 ⟨x, hx, inSp_iff.2 ⟨h1, h2⟩⟩)
    unfold has at this
    obtain ⟨y, hy, hyr⟩ := List.any_eq_true.1 this
    exact ⟨y, hy, inSp_iff.1 hyr⟩
  obtain ⟨y, hy, h1, h2⟩ := hin x.lo (by omega) hr.2.1
  rw [List.any_eq_true]
  refine ⟨y, hy, ?_⟩
  unfold subSp
  by_cases hh : x.hi ≤ y.hi
  · simp; omega
  · exfalso
    obtain ⟨z, hz, h3, h4⟩ := hin (y.hi + 1) (by omega) (by omega)
    rcases canon_apart hb hy hz with rfl | hc | hc <;> omega
theorem subSet_count {a b m : List Sp} (ha : Canon a) (hb : Canon b) (hm : Canon m) (em : ∀ r, has m r = (has a r && has b r)) : subSet a b = (countL m == countL a) := by
  have e2 : has m = fun r => has a r && has b r := funext em
  have h := cntN_sub 1114112 (has a) (has b)
  rw [count_cnt ha, count_cnt hm]
  unfold cnt
  rw [e2, Bool.eq_iff_iff]
  constructor
  · intro hs
    have := h.2 (fun r _ _ hr => subSet_has hs hr)
    rw [this]; simp
  · intro hs
    have hs' : cntN 1114112 (fun r => has a r && has b r) = cntN 1114112 (has a) := by have := eq_of_beq hs; omega
    refine subSet_of ha hb fun r hr => ?_
    have hd : 0 ≤ r ∧ r ≤ 1114111 := by
      unfold has at hr
      obtain ⟨x, hx, hxr⟩ := List.any_eq_true.1 hr
      have := ha.rng x hx
      rw [inSp_iff] at hxr
      omega
    exact h.1 hs' r (by omega) (by omega) hr
theorem countL_pos {l : List Sp} (h : Canon l) : 0 ≤ countL l := by rw [count_cnt h]; unfold cnt; omega
theorem nth_out : ∀ {l : List Sp} {k : Int}, Canon l → countL l ≤ k → nthFrom l k = (0, 6)
  | [], _, _, _ => rfl
  | x :: l, k, h, hk => by
    rw [countL_cons] at hk
    have := countL_pos h.tail
    have hx := h.rng x (List.mem_cons_self ..)
    rw [nthFrom_no (by omega)]
    exact nth_out h.tail (by omega)
theorem nth_in : ∀ {l : List Sp} {k : Int}, Canon l → 0 ≤ k → k < countL l → ∃ r, nthFrom l k = (r, 0) ∧ has l r = true ∧ 0 ≤ r ∧ r ≤ 1114111 ∧ cnt (fun n => has l n && decide (n ≤ r)) = k + 1
  | [], k, _, h0, hk => by simp [countL] at hk; omega
  | x :: l, k, h, h0, hk => by
    rw [countL_cons] at hk
    have hx := h.rng x (List.mem_cons_self ..)
    by_cases hlt : k < x.hi - x.lo + 1
    · refine ⟨x.lo + k, nthFrom_yes hlt, ?_, by omega, by omega, ?_⟩
      · rw [has_cons, inSp_iff.2 ⟨by omega, by omega⟩, Bool.true_or]
      · have := cntN_span x.lo (x.lo + k) hx.1 (by omega) 1114112
        unfold cnt
        rw [cntN_congr _ _ (fun r => decide (x.lo ≤ r) && decide (r ≤ x.lo + k)), this]
        · omega
        · intro r _ _
          rw [has_cons, Bool.eq_iff_iff]
          simp only [Bool.and_eq_true, Bool.or_eq_true, decide_eq_true_eq, inSp_iff]
          constructor
          · rintro ⟨h1 | h1, h2⟩
            · omega
            · have := h.behind h1; omega
          · intro h1; exact ⟨.inl (by omega), h1.2⟩
    · obtain ⟨r, e, hr, r0, r1, hc⟩ := nth_in h.tail (k := k - (x.hi - x.lo + 1)) (by omega) (by omega)
      refine ⟨r, by rw [nthFrom_no hlt, e], by rw [has_cons, hr, Bool.or_true], r0, r1, ?_⟩
      have hb := h.behind hr
      unfold cnt at hc ⊢
      have h1 := cntN_or 1114112 (inSp x) (fun n => has l n && decide (n ≤ r))
      have h2 : cntN 1114112 (fun n => inSp x n && (has l n && decide (n ≤ r))) = 0 := by
        rw [cntN_congr _ _ (fun _ => false), cntN_false]
        intro n _ _
        cases hl : has l n with
        | false => simp
        | true =>
          have hb := h.behind hl
          have : inSp x n = false := by cases hi : inSp x n with
            | false => rfl
            | true => rw [inSp_iff] at hi; omega
          rw [this]; rfl
      have h3 : (cntN 1114112 (inSp x) : Int) = x.hi - x.lo + 1 := by
        have := cntN_span x.lo x.hi hx.1 (by omega) 1114112
        have e : inSp x = fun r => decide (x.lo ≤ r) && decide (r ≤ x.hi) := rfl
        rw [e, this]; omega
      rw [cntN_congr _ (fun n => has (x :: l) n && decide (n ≤ r)) (fun n => inSp x n || (has l n && decide (n ≤ r)))]
      · omega
      · intro n _ _
        rw [has_cons]
        cases hi : inSp x n with
        | false => simp
        | true => rw [inSp_iff] at hi; rw [decide_eq_true (by omega)]; simp
theorem nthL_in {l : List Sp} {k : Int} (h : Good l) (h0 : 0 ≤ k) : nthL l k = nthFrom l k := by
  unfold nthL; rw [if_neg (by simp [wrong_of_good h]), if_neg (by omega)]
theorem nthL_neg {l : List Sp} {k : Int} (h : Good l) (h0 : k < 0) : nthL l k = (0, 3) := by
  unfold nthL; rw [if_neg (by simp [wrong_of_good h]), if_pos h0]
theorem countV_good {l : List Sp} (h : Good l) : countV l = countL l := by
  unfold countV; rw [if_neg (by simp [wrong_of_good h])]

end Go.Proofs.Ytfdkbhbnldcbmaa

namespace Go.Proofs.Ytfdkbhbnldcbmaa
set_option linter.unusedVariables false

theorem canon_dom {a : List Sp} (ha : Canon a) {r : Int} (h : has a r = true) : 0 ≤ r ∧ r ≤ 1114111 := by
  unfold has at h
  obtain ⟨x, hx, hr⟩ := List.any_eq_true.1 h
  have := ha.rng x hx
  rw [inSp_iff] at hr
  omega
theorem ok_dom {a : List Sp} (ha : ∀ x ∈ a, okSp x) {r : Int} (h : has a r = true) : 0 ≤ r ∧ r ≤ 1114111 := by
  unfold has at h
  obtain ⟨x, hx, hr⟩ := List.any_eq_true.1 h
  have := ha x hx
  unfold okSp at this
  rw [inSp_iff] at hr
  omega

/-- edges that begin with 0 -/
structure Edge0 (e : List Int) : Prop where
  edge : EdgeL e
  zero : (0 : Int) ∈ e
theorem Edge0.head {e : List Int} (h : Edge0 e) : e.head? = some 0 := by
  obtain ⟨⟨pw, rng⟩, hz⟩ := h
  cases e with
  | nil => simp at hz
  | cons x e =>
    rcases List.mem_cons.1 hz with rfl | hz
    · rfl
    · have := (List.pairwise_cons.1 pw).1 0 hz
      have := rng x (by simp)
      omega
theorem edge0_one : Edge0 [0] := ⟨⟨by simp, fun x hx => by simp at hx; subst hx; omega⟩, by simp⟩
theorem Edge0.of {e : List Int} (h : Edge0 e) {l : List Sp} (hl : ∀ x ∈ l, okSp x) : Edge0 (edgesOf l e) := ⟨edgesOf_edge l e hl h.edge, edgesOf_old l e h.zero⟩
theorem Edge0.put {e : List Int} (h : Edge0 e) {r : Int} (hr : 0 ≤ r) : Edge0 (putE e r) := ⟨putE_edge h.edge hr, putE_mem.2 (.inr h.zero)⟩
theorem edges_in {e : List Int} (l : List Sp) (hl : ∀ x ∈ l, okSp x) : ∀ x ∈ l, x.lo ∈ edgesOf l e ∧ (x.hi + 1 ≤ 1114111 → x.hi + 1 ∈ edgesOf l e) :=
  fun x hx => edgesOf_mem l e hx (hl x hx)

theorem build_has (p : Int → Bool) {e : List Int} (h : Edge0 e) (hp : ∀ r, 0 ≤ r → r ≤ 1114111 → p (lastE e 0 r) = p r) :
    Canon (buildL p e []) ∧ ∀ r, has (buildL p e []) r = (decide (0 ≤ r ∧ r ≤ 1114111) && p r) := by
  have hd := h.head
  obtain ⟨h1, h2⟩ := buildL_spec p e [] 0 h.edge (fun x _ => ⟨Canon.nil, fun x hx => by simp at hx⟩) (fun he => by rw [he] at hd; simp at hd)
  refine ⟨h1, fun r => ?_⟩
  rw [h2 r, has_nil, Bool.false_or, hd]
  by_cases h0 : 0 ≤ r
  · by_cases h3 : r ≤ 1114111
    · rw [hp r h0 h3, decide_eq_true (show ∃ x, some (0 : Int) = some x ∧ x ≤ r from ⟨0, rfl, h0⟩), decide_eq_true h3, decide_eq_true ⟨h0, h3⟩]; rfl
    · rw [decide_eq_false h3, decide_eq_false (show ¬ (0 ≤ r ∧ r ≤ 1114111) from fun h => h3 h.2)]; simp
  · rw [decide_eq_false (show ¬ ∃ x, some (0 : Int) = some x ∧ x ≤ r from fun ⟨x, hx, hr⟩ => by simp at hx; omega), decide_eq_false (show ¬ (0 ≤ r ∧ r ≤ 1114111) from fun h => h0 h.1)]; rfl

theorem dom_and {a : List Sp} (ha : ∀ x ∈ a, okSp x) (r : Int) : (decide (0 ≤ r ∧ r ≤ 1114111) && has a r) = has a r := by
  cases h : has a r
  · simp
  · rw [decide_eq_true (ok_dom ha h)]; rfl

/-- Of -/
def refOfL (l : List Sp) : List Sp := buildL (has l) (edgesOf l [0]) []
theorem refOf_eq {l : List Sp} (hl : ∀ x ∈ l, okSp x) : refOfL l = ofS l := by
  have he := edge0_one.of hl
  obtain ⟨h1, h2⟩ := build_has (has l) he (fun r h0 h3 => has_lastE he.edge hl (edges_in l hl) he.zero h0 h3 0)
  exact IsSet.uniq (l := l) ⟨h1, fun r => (h2 r).trans (dom_and hl r)⟩ (ofS_set hl)

/-- Not -/
def refNotL (a : List Sp) : List Sp := buildL (fun r => !has a r) (edgesOf a [0]) []
theorem refNot_eq {a : List Sp} (G : Good a) : refNotL a = notL a := by
  have he := edge0_one.of (good_ok G)
  obtain ⟨h1, h2⟩ := build_has (fun r => !has a r) he (fun r h0 h3 => by rw [has_lastE he.edge (good_ok G) (edges_in a (good_ok G)) he.zero h0 h3 0])
  exact canon_eq h1 (not_canon G.canon) fun r => (h2 r).trans (not_has G.canon r).symm

/-- the edges of two -/
abbrev edges2 (a b : List Sp) : List Int := edgesOf b (edgesOf a [0])
theorem edges2_0 {a b : List Sp} (ha : ∀ x ∈ a, okSp x) (hb : ∀ x ∈ b, okSp x) : Edge0 (edges2 a b) := (edge0_one.of ha).of hb
theorem lastE_two {a b : List Sp} (ha : ∀ x ∈ a, okSp x) (hb : ∀ x ∈ b, okSp x) {r : Int} (h0 : 0 ≤ r) (h3 : r ≤ 1114111) :
    has a (lastE (edges2 a b) 0 r) = has a r ∧ has b (lastE (edges2 a b) 0 r) = has b r := by
  have he := edges2_0 ha hb
  exact ⟨has_lastE he.edge ha (fun x hx => ⟨edgesOf_old _ _ (edges_in a ha x hx).1, fun h => edgesOf_old _ _ ((edges_in a ha x hx).2 h)⟩) he.zero h0 h3 0, has_lastE he.edge hb (edges_in b hb) he.zero h0 h3 0⟩
def refDoL (f : Bool → Bool → Bool) (a b : List Sp) : List Sp := buildL (fun r => f (has a r) (has b r)) (edges2 a b) []
theorem refDo_spec (f : Bool → Bool → Bool) {a b : List Sp} (ha : Good a) (hb : Good b) :
    Canon (refDoL f a b) ∧ ∀ r, has (refDoL f a b) r = (decide (0 ≤ r ∧ r ≤ 1114111) && f (has a r) (has b r)) :=
  build_has _ (edges2_0 (good_ok ha) (good_ok hb)) fun r h0 h3 => by
    obtain ⟨e1, e2⟩ := lastE_two (good_ok ha) (good_ok hb) h0 h3
    rw [e1, e2]
theorem or2_spec {a b : List Sp} (ha : Good a) (hb : Good b) : Canon (ofS (a ++ b)) ∧ ∀ r, has (ofS (a ++ b)) r = (has a r || has b r) := by
  have := ofS_set (l := a ++ b) (fun x hx => (List.mem_append.1 hx).elim (good_ok ha x) (good_ok hb x))
  exact ⟨this.1, fun r => by rw [this.2 r]; unfold has; rw [List.any_append]⟩
theorem refOr_eq {a b : List Sp} (ha : Good a) (hb : Good b) : refDoL (fun x y => x || y) a b = ofS (a ++ b) := by
  obtain ⟨h1, h2⟩ := refDo_spec (fun x y => x || y) ha hb
  refine canon_eq h1 (or2_spec ha hb).1 fun r => ?_
  rw [h2 r, (or2_spec ha hb).2]
  cases h : has a r
  · rw [Bool.false_or]; exact dom_and (good_ok hb) r
  · rw [decide_eq_true (canon_dom ha.canon h)]; rfl
theorem refAnd_eq {a b : List Sp} (ha : Good a) (hb : Good b) : refDoL (fun x y => x && y) a b = meetL a b := by
  obtain ⟨h1, h2⟩ := refDo_spec (fun x y => x && y) ha hb
  refine canon_eq h1 (meetL_spec a b ha.canon hb.canon).1 fun r => ?_
  rw [h2 r, (meetL_spec a b ha.canon hb.canon).2 r, ← Bool.and_assoc, dom_and (good_ok ha) r]
theorem refMinus_eq {a b : List Sp} (ha : Good a) (hb : Good b) : refDoL (fun x y => x && !y) a b = meetL a (notL b) := by
  obtain ⟨h1, h2⟩ := refDo_spec (fun x y => x && !y) ha hb
  refine canon_eq h1 (meetL_spec a _ ha.canon (not_canon hb.canon)).1 fun r => ?_
  rw [h2 r, (meetL_spec a _ ha.canon (not_canon hb.canon)).2 r, not_has hb.canon]
  have hd := dom_and (good_ok ha) r
  generalize decide (0 ≤ r ∧ r ≤ 1114111) = D at *
  generalize has a r = x at *
  generalize has b r = y at *
  cases D <;> cases x <;> cases y <;> simp_all

/-- Sub -/
def notSubL (a b : List Sp) : List Int → Bool := fun e => e.any fun r => has a r && !has b r
theorem subSet_iff {a b : List Sp} (ha : Good a) (hb : Good b) : subSet a b = true ↔ ∀ r, has a r = true → has b r = true :=
  ⟨fun h r hr => subSet_has h hr, fun h => subSet_of ha.canon hb.canon h⟩
theorem refSub_eq {a b : List Sp} (ha : Good a) (hb : Good b) : notSubL a b (edges2 a b) = !subSet a b := by
  have he := edges2_0 (good_ok ha) (good_ok hb)
  cases h : subSet a b
  · show _ = true
    unfold notSubL
    rw [List.any_eq_true]
    have : ¬ ∀ r, has a r = true → has b r = true := fun k => by rw [(subSet_iff ha hb).2 k] at h; cases h
    obtain ⟨r, hr⟩ := Classical.not_forall.1 this
    obtain ⟨h1, h2⟩ := Classical.not_imp.1 hr
    have hd := canon_dom ha.canon h1
    obtain ⟨e1, e2⟩ := lastE_two (good_ok ha) (good_ok hb) hd.1 hd.2
    refine ⟨lastE (edges2 a b) 0 r, ?_, by rw [e1, e2, h1]; simpa using h2⟩
    have hz : ∃ x ∈ edges2 a b, x ≤ r := ⟨0, he.zero, hd.1⟩
    exact lastE_mem he.edge.pw hz 0
  · show _ = false
    unfold notSubL
    rw [List.any_eq_false]
    intro r _
    have := (subSet_iff ha hb).1 h r
    cases h1 : has a r
    · simp
    · rw [this h1]; simp
where
  lastE_mem {r : Int} : ∀ {e : List Int}, e.Pairwise (· < ·) → (∃ x ∈ e, x ≤ r) → ∀ B, lastE e B r ∈ e
    | [], _, h, _ => by obtain ⟨x, hx, _⟩ := h; simp at hx
    | y :: e, hp, hex, B => by
      obtain ⟨p1, p2⟩ := List.pairwise_cons.1 hp
      by_cases hy : y ≤ r
      · rw [lastE, if_pos hy]
        by_cases hz : ∃ x ∈ e, x ≤ r
        · exact List.mem_cons_of_mem _ (lastE_mem p2 hz y)
        · have : lastE e y r = y := by
            cases e with
            | nil => rfl
            | cons z e => rw [lastE, if_neg (fun h => hz ⟨z, by simp, h⟩)]
          rw [this]; simp
      · exfalso
        obtain ⟨x, hx, hxr⟩ := hex
        rcases List.mem_cons.1 hx with rfl | hx
        · exact hy hxr
        · have := p1 x hx; omega

/-- how long edges, and what is built of them, may be -/
theorem rising_len {l : List Int} : ∀ {lo hi : Int}, l.Pairwise (· < ·) → (∀ x ∈ l, lo ≤ x ∧ x ≤ hi) → (l.length : Int) ≤ max 0 (hi - lo + 1) := by
  induction l with
  | nil => intro lo hi _ _; simp; omega
  | cons x l ih =>
    intro lo hi hp hr
    obtain ⟨p1, p2⟩ := List.pairwise_cons.1 hp
    have hx := hr x (by simp)
    have := ih (lo := x + 1) (hi := hi) p2 fun y hy => by have := p1 y hy; have := hr y (by simp [hy]); omega
    simp only [List.length_cons]
    omega
theorem EdgeL.len {l : List Int} (h : EdgeL l) : l.length ≤ 1114112 := by
  have := rising_len h.pw h.rng
  omega
theorem Canon.len {l : List Sp} (h : Canon l) : l.length ≤ 1114112 := by
  have := rising_len (l := l.map (·.lo)) (lo := 0) (hi := 1114111) (by
    rw [List.pairwise_map]
    exact h.pw.imp_of_mem fun ha hb hab => by have := h.rng _ ha; omega) (fun x hx => by
    obtain ⟨y, hy, rfl⟩ := List.mem_map.1 hx
    have := h.rng y hy; omega)
  rw [List.length_map] at this
  omega

/-- counting up to a place -/
theorem good_take {l : List Sp} (h : Good l) (k : Nat) : Good (l.take k) :=
  ⟨by have := h.len; rw [List.length_take]; omega, fun x hx => h.rng x (List.mem_of_mem_take hx), h.pw.sublist (List.take_sublist k l)⟩

end Go.Proofs.Ytfdkbhbnldcbmaa
