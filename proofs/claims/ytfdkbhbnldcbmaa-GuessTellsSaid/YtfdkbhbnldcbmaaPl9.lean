/- Plain laws: rules that always go on; how far rules look; rules that mask others. No program in sight. -/
import Derived.Test.YtfdkbhbnldcbmaaRule
import Derived.Test.YtfdkbhbnldcbmaaPlay
namespace Go.Proofs.Ytfdkbhbnldcbmaa
set_option linter.unusedVariables false
set_option linter.unusedSimpArgs false

/-! ### small bounds -/
theorem wrongSets_bd : ∀ (l : List (List Sp)), 0 ≤ wrongSets l ∧ wrongSets l ≤ 5
  | [] => by simp [wrongSets]
  | s :: r => by
    unfold wrongSets
    have h1 := wrongSet_bd s
    have h2 := wrongSets_bd r
    split <;> omega
theorem wrongSide_bd (l : List (List Sp)) : 0 ≤ wrongSide l ∧ wrongSide l ≤ 5 := by
  unfold wrongSide
  have := wrongSets_bd l
  split <;> omega
theorem wrongSides_bd : ∀ (l : List (List (List Sp))), 0 ≤ wrongSides l ∧ wrongSides l ≤ 5
  | [] => by simp [wrongSides]
  | s :: r => by
    unfold wrongSides
    have h1 := wrongSide_bd s
    have h2 := wrongSides_bd r
    split <;> omega
theorem wrongRule_bd (r : Rule) : 0 ≤ wrongRule r ∧ wrongRule r ≤ 6 := by
  unfold wrongRule
  have := wrongSides_bd [r.before, r.source, r.after]
  repeat (split; omega)
  omega
theorem wrongAt_bd : ∀ (k : Nat) (l : List Rule), 0 ≤ (wrongAt k l).1 ∧ (wrongAt k l).1 ≤ 6
  | _, [] => by simp [wrongAt]
  | k, r :: l => by
    unfold wrongAt
    have h1 := wrongRule_bd r
    have h2 := wrongAt_bd (k + 1) l
    split
    · exact h1
    · exact h2
theorem wrongRules_bd (l : List Rule) : 0 ≤ (wrongRules l).1 ∧ (wrongRules l).1 ≤ 6 := by
  unfold wrongRules
  have := wrongAt_bd 0 l
  split
  · simp
  · exact this
theorem wrongText_bd (t : List Int) : 0 ≤ wrongText t ∧ wrongText t ≤ 4 := by
  unfold wrongText
  repeat (split; omega)
  omega
theorem checkRun_bd (l : List Rule) (t : List Int) : 0 ≤ (checkRun l t).1 ∧ (checkRun l t).1 ≤ 6 := by
  unfold checkRun
  have h1 := wrongRules_bd l
  have h2 := wrongText_bd t
  split
  · exact h1
  · exact ⟨h2.1, by simp only []; omega⟩

/-! ### rules that always go on -/
def sureR (l : List Rule) : Bool := l.all fun r => decide (r.cursor = r.target.length)
theorem sureR_mem {l : List Rule} (h : sureR l = true) {r : Rule} (hr : r ∈ l) : r.cursor = r.target.length := by
  unfold sureR at h
  rw [List.all_eq_true] at h
  simpa using h r hr

theorem play_sure {l : List Rule} (hs : sureR l = true) (hok : ∀ r ∈ l, OkRule r) : ∀ (n : Nat) (t : List Int) (a s p : Nat), a ≤ t.length → t.length - a ≤ n →
    ((play l n ⟨t, a, s, p⟩).err = 0 ∧ (play l n ⟨t, a, s, p⟩).steps ≤ s + (t.length - a)) ∨ (play l n ⟨t, a, s, p⟩).err = 4
  | n, t, a, s, p, ha, hn => by
    by_cases hlt : a < t.length
    · match n with
      | 0 => omega
      | n + 1 =>
        by_cases hk : first l t a < 0
        · rw [play_next hlt (playStep_no hk)]
          rcases play_sure hs hok n t (a + 1) (s + 1) p (by omega) (by omega) with h | h
          · exact .inl ⟨h.1, by omega⟩
          · exact .inr h
        · obtain ⟨i, r, hir, hh, hf⟩ := first_mem (by omega : 0 ≤ first l t a)
          have hroom := here_room hh
          have hm := List.mem_of_getElem? hir
          have ok := hok r hm
          have hc := sureR_mem hs hm
          by_cases hb : 4000 < (t.length : Int) - r.source.length + r.target.length
          · rw [play_none hlt (playStep_much hf hir hb)]; exact .inr rfl
          · rw [play_next hlt (playStep_put hf hir hb)]
            have hl := putAt_len (r := r) (t := t) (a := a) hroom
            have h0 := ok.s0
            have e : r.cursor.toNat = r.target.length := by omega
            rcases play_sure hs hok n (putAt r t a) (a + r.cursor.toNat) (s + 1) (p + 1) (by omega) (by omega) with h | h
            · exact .inl ⟨h.1, by omega⟩
            · exact .inr h
    · rw [play_end (by simpa using hlt)]
      exact .inl ⟨rfl, by simp⟩

/-- what the law says of a run by sure rules -/
theorem sure_run {l : List Rule} {t : List Int} (hs : sureR l = true) :
    ((runF l t).1 ≠ 0 ∧ (runF l t).1 ≠ 9) ∨ ((runF l t).1 = 0 ∧ (runAll l t).steps ≤ t.length) := by
  by_cases hc : (checkRun l t).1 = 0
  · have hr : (wrongRules l).1 = 0 := by
      by_cases hz : (wrongRules l).1 = 0
      · exact hz
      · rw [checkRun_rules hz] at hc; exact absurd hc hz
    obtain ⟨_, _, hok⟩ := wrongRules_zero hr
    rw [runF_ok hc, runAll_ok hc]
    unfold runText
    rcases play_sure hs hok (8 * t.length + 40) t 0 0 0 (by omega) (by omega) with h | h
    · exact .inr ⟨h.1, by have := h.2; omega⟩
    · exact .inl ⟨by rw [h]; simp, by rw [h]; simp⟩
  · rw [runF_bad hc]
    have := checkRun_bd l t
    exact .inl ⟨hc, by omega⟩

/-! ### how far rules look -/
def reachB : List Rule → Nat → Nat → Nat × Nat
  | [], a, b => (a, b)
  | r :: l, a, b => reachB l (max a r.before.length) (max b (r.source.length + r.after.length))
theorem reachB_ge : ∀ (l : List Rule) (a b : Nat), a ≤ (reachB l a b).1 ∧ b ≤ (reachB l a b).2
  | [], a, b => ⟨Nat.le_refl _, Nat.le_refl _⟩
  | r :: l, a, b => by
    unfold reachB
    have := reachB_ge l (max a r.before.length) (max b (r.source.length + r.after.length))
    omega
theorem reachB_mem : ∀ (l : List Rule) (a b : Nat) (r : Rule), r ∈ l → r.before.length ≤ (reachB l a b).1 ∧ r.source.length + r.after.length ≤ (reachB l a b).2
  | r' :: l, a, b, r, h => by
    unfold reachB
    rcases List.mem_cons.1 h with rfl | h
    · have := reachB_ge l (max a r.before.length) (max b (r.source.length + r.after.length))
      omega
    · exact reachB_mem l _ _ r h
theorem reachB_snoc : ∀ (l : List Rule) (a b : Nat) (r : Rule), reachB (l ++ [r]) a b = (max (reachB l a b).1 r.before.length, max (reachB l a b).2 (r.source.length + r.after.length))
  | [], a, b, r => rfl
  | r' :: l, a, b, r => by
    rw [List.cons_append]
    unfold reachB
    exact reachB_snoc l _ _ r
theorem reachB_le : ∀ (l : List Rule) (a b : Nat), (∀ r ∈ l, OkRule r) → a ≤ 20 → b ≤ 40 → (reachB l a b).1 ≤ 20 ∧ (reachB l a b).2 ≤ 40
  | [], a, b, _, ha, hb => ⟨ha, hb⟩
  | r :: l, a, b, h, ha, hb => by
    unfold reachB
    have ok := h r (by simp)
    have h1 := ok.lb; have h2 := ok.ls; have h3 := ok.la
    exact reachB_le l _ _ (fun x hx => h x (by simp [hx])) (by omega) (by omega)

theorem zipHas_take : ∀ (l : List (List Sp)) (u : List Int) (m : Nat), l.length ≤ m → zipHas l (u.take m) = zipHas l u
  | [], u, m, h => by simp [zipHas]
  | s :: r, [], m, h => by simp
  | s :: r, x :: u, 0, h => by simp at h
  | s :: r, x :: u, m + 1, h => by
    rw [List.take_succ_cons]
    unfold zipHas
    rw [zipHas_take r u m (by simpa using h)]

theorem allAt_window {t : List Int} {x : Int} {l : List (List Sp)} {lo hi : Nat} (h1 : hi ≤ t.length) (hlo : lo ≤ hi) (h2 : 0 ≤ x → (lo : Int) ≤ x) (h2' : x < 0 → lo = 0) (h3 : x + l.length ≤ t.length → x + l.length ≤ hi) :
    allAt ((t.take hi).drop lo) (x - lo) l = allAt t x l := by
  have hlen : ((t.take hi).drop lo).length = hi - lo := by simp; omega
  unfold allAt
  rw [hlen]
  by_cases hx : 0 ≤ x
  · have hx' := h2 hx
    rw [decide_eq_true hx, decide_eq_true (by omega : 0 ≤ x - (lo : Int))]
    by_cases hb : x + l.length ≤ t.length
    · have hb' := h3 hb
      rw [decide_eq_true hb, decide_eq_true (by omega : x - (lo : Int) + l.length ≤ ((hi - lo : Nat) : Int))]
      rw [List.drop_drop, show lo + (x - (lo : Int)).toNat = x.toNat by omega, List.drop_take, zipHas_take _ _ _ (by omega)]
    · rw [decide_eq_false hb, decide_eq_false (by omega : ¬ x - (lo : Int) + l.length ≤ ((hi - lo : Nat) : Int))]
      simp
  · have hz := h2' (by omega)
    rw [decide_eq_false hx, decide_eq_false (by omega : ¬ 0 ≤ x - (lo : Int))]
    simp

theorem here_window {r : Rule} {t : List Int} {a B A lo hi : Nat} (ha : a ≤ t.length) (hB : r.before.length ≤ B) (hA : r.source.length + r.after.length ≤ A)
    (hlo : lo = a - B - 1) (hhi : hi = min t.length (a + A + 1)) : here r ((t.take hi).drop lo) ((a : Int) - lo) = here r t a := by
  have h1 : hi ≤ t.length := by omega
  have hle : lo ≤ hi := by omega
  have hla : lo ≤ a := by omega
  have hlen : ((t.take hi).drop lo).length = hi - lo := by simp; omega
  unfold here
  rw [show ((a : Int) - lo - r.before.length) = ((a : Int) - r.before.length) - lo by omega, show ((a : Int) - lo + r.source.length) = ((a : Int) + r.source.length) - lo by omega]
  rw [allAt_window h1 hle (by omega) (by omega) (by omega), allAt_window h1 hle (by omega) (by omega) (by omega), allAt_window h1 hle (by omega) (by omega) (by omega), hlen]
  have e1 : decide ((a : Int) - lo ≠ r.before.length) = decide ((a : Int) ≠ r.before.length) := by
    by_cases hz : a = r.before.length
    · rw [decide_eq_false (by simp; omega), decide_eq_false (by simp; omega)]
    · rw [decide_eq_true (by omega), decide_eq_true (by omega)]
  have e2 : decide ((a : Int) + r.source.length - lo + r.after.length ≠ ((hi - lo : Nat) : Int)) = decide ((a : Int) + r.source.length + r.after.length ≠ t.length) := by
    by_cases hz : a + r.source.length + r.after.length = t.length
    · rw [decide_eq_false (by simp; omega), decide_eq_false (by simp; omega)]
    · rw [decide_eq_true (by omega), decide_eq_true (by omega)]
  rw [e1, e2]

theorem idxFrom_congr {α : Type} {p q : α → Bool} : ∀ (k : Nat) (l : List α), (∀ x ∈ l, p x = q x) → idxFrom p k l = idxFrom q k l
  | _, [], _ => rfl
  | k, x :: l, h => by
    unfold idxFrom
    rw [h x (by simp), idxFrom_congr (k + 1) l fun y hy => h y (by simp [hy])]

theorem first_window {l : List Rule} {t : List Int} {a lo hi : Nat} (ha : a ≤ t.length) (hlo : lo = a - (reachB l 0 0).1 - 1) (hhi : hi = min t.length (a + (reachB l 0 0).2 + 1)) :
    first l ((t.take hi).drop lo) ((a : Int) - lo) = first l t a := by
  unfold first
  exact idxFrom_congr _ _ fun r hr => here_window ha (reachB_mem l 0 0 r hr).1 (reachB_mem l 0 0 r hr).2 hlo hhi

theorem right_part {t : List Int} {lo hi : Nat} (h : t.all right = true) : ((t.take hi).drop lo).all right = true := by
  rw [List.all_eq_true] at h ⊢
  exact fun x hx => h x (List.mem_of_mem_take (List.mem_of_mem_drop hx))

/-- what is told of the part within reach -/
theorem which_window {l : List Rule} {t : List Int} {a : Nat} {lo hi : Nat} (h : (whichF l t a).1 = 0) (hlo : lo = a - (reachB l 0 0).1 - 1) (hhi : hi = min t.length (a + (reachB l 0 0).2 + 1)) :
    (whichF l ((t.take hi).drop lo) ((a : Int) - lo)).1 = 0 ∧ whichV l ((t.take hi).drop lo) ((a : Int) - lo) = whichV l t a := by
  have hc : (checkRun l t).1 = 0 := by
    by_cases hz : (checkRun l t).1 = 0
    · exact hz
    · rw [whichF_bad hz] at h; exact absurd h hz
  have hr : (wrongRules l).1 = 0 := by
    by_cases hz : (wrongRules l).1 = 0
    · exact hz
    · rw [checkRun_rules hz] at hc; exact absurd hc hz
  have hx : wrongText t = 0 := by rw [checkRun_text hr] at hc; exact hc
  obtain ⟨h1, h2⟩ := text_of hx
  have ha : a ≤ t.length := by
    by_cases hz : (a : Int) < 0 ∨ (t.length : Int) < a
    · rw [whichF_far hc hz] at h; simp at h
    · omega
  have hlen : ((t.take hi).drop lo).length = hi - lo := by simp; omega
  have hx' : wrongText ((t.take hi).drop lo) = 0 := wrongText_of (by omega) (right_part h2)
  have hc' : (checkRun l ((t.take hi).drop lo)).1 = 0 := by rw [checkRun_text hr]; exact hx'
  have hf : whichF l ((t.take hi).drop lo) ((a : Int) - lo) = (0, 0) := whichF_in hc' (by rw [hlen]; omega)
  refine ⟨by rw [hf], ?_⟩
  rw [whichV_in (by rw [hf]), whichV_in h, first_window ha hlo hhi]

/-! ### rules that mask others -/
def subSp (x y : Sp) : Bool := decide (y.lo ≤ x.lo) && decide (x.hi ≤ y.hi)
def subSet (a b : List Sp) : Bool := a.all fun x => b.any fun y => subSp x y
theorem subSet_has {a b : List Sp} (h : subSet a b = true) {r : Int} (hr : has a r = true) : has b r = true := by
  unfold subSet at h
  unfold has at hr ⊢
  rw [List.any_eq_true] at hr ⊢
  obtain ⟨x, hx, hxr⟩ := hr
  rw [List.all_eq_true] at h
  have := h x hx
  rw [List.any_eq_true] at this
  obtain ⟨y, hy, hxy⟩ := this
  refine ⟨y, hy, ?_⟩
  simp only [subSp, inSp, Bool.and_eq_true, decide_eq_true_eq] at *
  omega

def within : List (List Sp) → List (List Sp) → Bool
  | _, [] => true
  | [], _ :: _ => false
  | n :: ns, w :: ws => subSet n w && within ns ws
theorem within_get : ∀ {n w : List (List Sp)}, within n w = true → ∀ (i : Nat) (s : List Sp), w[i]? = some s → ∃ s', n[i]? = some s' ∧ subSet s' s = true
  | _, [], _, i, s, h => by simp at h
  | [], _ :: _, h, i, s, hs => by simp [within] at h
  | n :: ns, w :: ws, h, 0, s, hs => by
    simp only [within, Bool.and_eq_true] at h
    simp at hs; subst hs
    exact ⟨n, rfl, h.1⟩
  | n :: ns, w :: ws, h, i + 1, s, hs => by
    simp only [within, Bool.and_eq_true] at h
    simp at hs
    exact within_get h.2 i s hs
theorem within_len : ∀ {n w : List (List Sp)}, within n w = true → w.length ≤ n.length
  | _, [], _ => by simp
  | [], _ :: _, h => by simp [within] at h
  | n :: ns, w :: ws, h => by
    simp only [within, Bool.and_eq_true] at h
    have := within_len h.2
    simp; omega
theorem zipHas_iff : ∀ (l : List (List Sp)) (u : List Int), zipHas l u = true ↔ ∀ (i : Nat) (s : List Sp), l[i]? = some s → ∃ x, u[i]? = some x ∧ has s x = true
  | [], u => by simp [zipHas]
  | s :: r, [] => by
    simp only [zipHas, Bool.false_eq_true, false_iff]
    intro h
    obtain ⟨x, hx, _⟩ := h 0 s rfl
    simp at hx
  | s :: r, x :: u => by
    unfold zipHas
    rw [Bool.and_eq_true, zipHas_iff r u]
    constructor
    · rintro ⟨h1, h2⟩ i s' hs
      match i with
      | 0 => simp at hs; subst hs; exact ⟨x, rfl, h1⟩
      | i + 1 => exact h2 i s' (by simpa using hs)
    · intro h
      refine ⟨?_, fun i s' hs => ?_⟩
      · obtain ⟨y, hy, hh⟩ := h 0 s rfl
        simp at hy; subst hy; exact hh
      · obtain ⟨y, hy, hh⟩ := h (i + 1) s' (by simpa using hs)
        exact ⟨y, by simpa using hy, hh⟩

def masksB (a b : Rule) : Bool :=
  within b.before.reverse a.before.reverse && within (b.source ++ b.after) (a.source ++ a.after) && (!a.start || (b.start && decide (a.before.length = b.before.length))) &&
    (!a.fin || (b.fin && decide (a.source.length + a.after.length = b.source.length + b.after.length)))

theorem here_parts {r : Rule} {t : List Int} {x : Nat} (hx : x ≤ t.length) : here r t x = true ↔
    r.before.length ≤ x ∧ zipHas r.before (t.drop (x - r.before.length)) = true ∧ zipHas (r.source ++ r.after) (t.drop x) = true ∧
      (r.start = true → x = r.before.length) ∧ (r.fin = true → x + r.source.length + r.after.length = t.length) := by
  unfold here
  by_cases hb : r.before.length ≤ x
  · rw [show ((x : Int) - r.before.length) = ((x - r.before.length : Nat) : Int) by omega, show ((x : Int) + r.source.length) = ((x + r.source.length : Nat) : Int) by omega,
      allAt_nat r.source hx, allAt_nat r.before (by omega)]
    by_cases hs : x + r.source.length ≤ t.length
    · rw [allAt_nat r.after hs, zipHas_append, List.drop_drop]
      simp only [Bool.and_eq_true, Bool.not_eq_true', Bool.and_eq_false_iff, decide_eq_false_iff_not]
      constructor
      · rintro ⟨⟨⟨⟨h1, h2⟩, h3⟩, h4⟩, h5⟩
        exact ⟨hb, h2, ⟨h1, h3⟩, fun e => by
          rcases h4 with h4 | h4
          · rw [e] at h4; cases h4
          · omega, fun e => by
          rcases h5 with h5 | h5
          · rw [e] at h5; cases h5
          · omega⟩
      · rintro ⟨_, h2, ⟨h1, h3⟩, h4, h5⟩
        refine ⟨⟨⟨⟨h1, h2⟩, h3⟩, ?_⟩, ?_⟩
        · cases e : r.start
          · exact .inl rfl
          · exact .inr (by have := h4 e; omega)
        · cases e : r.fin
          · exact .inl rfl
          · exact .inr (by have := h5 e; omega)
    · have hz : zipHas r.source (t.drop x) = false := by
        cases e : zipHas r.source (t.drop x)
        · rfl
        · have := zipHas_len _ _ e
          rw [List.length_drop] at this
          omega
      rw [zipHas_append, hz]
      simp
  · rw [allAt_neg (show (x : Int) - r.before.length < 0 by omega)]
    simp [hb]

theorem masks_here {a b : Rule} {t : List Int} {x : Nat} (hx : x ≤ t.length) (hm : masksB a b = true) (hb : here b t x = true) : here a t x = true := by
  unfold masksB at hm
  simp only [Bool.and_eq_true, Bool.or_eq_true, Bool.not_eq_true', decide_eq_true_eq] at hm
  obtain ⟨⟨⟨m1, m2⟩, m3⟩, m4⟩ := hm
  rw [here_parts hx] at hb ⊢
  obtain ⟨h1, h2, h3, h4, h5⟩ := hb
  have l1 := within_len m1
  simp only [List.length_reverse] at l1
  refine ⟨by omega, ?_, ?_, fun e => ?_, fun e => ?_⟩
  · rw [zipHas_iff] at h2 ⊢
    intro i s hs
    have hi : i < a.before.length := lt_of_get hs
    obtain ⟨s', g1, g2⟩ := within_get m1 (a.before.length - 1 - i) s (by rw [List.getElem?_reverse (by omega)]; rw [show a.before.length - 1 - (a.before.length - 1 - i) = i by omega]; exact hs)
    rw [List.getElem?_reverse (by omega)] at g1
    obtain ⟨v, g3, g4⟩ := h2 _ _ g1
    refine ⟨v, ?_, subSet_has g2 g4⟩
    rw [List.getElem?_drop] at g3 ⊢
    rw [← g3]
    congr 1
    omega
  · rw [zipHas_iff] at h3 ⊢
    intro i s hs
    obtain ⟨s', g1, g2⟩ := within_get m2 i s hs
    obtain ⟨v, g3, g4⟩ := h3 _ _ g1
    exact ⟨v, g3, subSet_has g2 g4⟩
  · rcases m3 with m3 | ⟨m3, m5⟩
    · rw [e] at m3; cases m3
    · rw [h4 m3, m5]
  · rcases m4 with m4 | ⟨m4, m5⟩
    · rw [e] at m4; cases m4
    · have := h5 m4; omega

/-! ### a masked rule may go -/
theorem first_find (l : List Rule) (t : List Int) (a : Int) :
    (l.find? (fun r => here r t a) = none ∧ first l t a < 0) ∨ ∃ (i : Nat) (r : Rule), l.find? (fun r => here r t a) = some r ∧ first l t a = i ∧ l[i]? = some r := by
  unfold first
  have key : ∀ (k : Nat) (l : List Rule), (l.find? (fun r => here r t a) = none ∧ idxFrom (fun r => here r t a) k l < 0) ∨
      ∃ (i : Nat) (r : Rule), l.find? (fun r => here r t a) = some r ∧ idxFrom (fun r => here r t a) k l = (k + i : Nat) ∧ l[i]? = some r := by
    intro k l
    induction l generalizing k with
    | nil => exact .inl ⟨rfl, by simp [idxFrom]⟩
    | cons x l ih =>
      cases h : here x t a
      · rw [List.find?_cons_of_neg (by simp [h]), idxFrom, if_neg (by simp [h])]
        rcases ih (k + 1) with ⟨h1, h2⟩ | ⟨i, r, h1, h2, h3⟩
        · exact .inl ⟨h1, h2⟩
        · exact .inr ⟨i + 1, r, h1, by rw [h2]; congr 1; omega, by simpa using h3⟩
      · rw [List.find?_cons_of_pos (by simp [h]), idxFrom, if_pos (by simp [h])]
        exact .inr ⟨0, x, rfl, by simp, rfl⟩
  rcases key 0 l with h | ⟨i, r, h1, h2, h3⟩
  · exact .inl h
  · exact .inr ⟨i, r, h1, by rw [h2]; congr 1; omega, h3⟩

theorem playStep_find {l l' : List Rule} {p : Play} (h : l.find? (fun r => here r p.text p.at_) = l'.find? (fun r => here r p.text p.at_)) : playStep l p = playStep l' p := by
  obtain ⟨t, a, s, q⟩ := p
  simp only [] at h
  rcases first_find l t a with ⟨h1, h2⟩ | ⟨i, r, h1, h2, h3⟩
  · rcases first_find l' t a with ⟨g1, g2⟩ | ⟨j, r', g1, g2, g3⟩
    · rw [playStep_no h2, playStep_no g2]
    · rw [h, g1] at h1; cases h1
  · rcases first_find l' t a with ⟨g1, g2⟩ | ⟨j, r', g1, g2, g3⟩
    · rw [h, g1] at h1; cases h1
    · rw [h, g1] at h1
      cases h1
      by_cases hb : 4000 < (t.length : Int) - r.source.length + r.target.length
      · rw [playStep_much h2 h3 hb, playStep_much g2 g3 hb]
      · rw [playStep_put h2 h3 hb, playStep_put g2 g3 hb]

theorem play_congr {l l' : List Rule} (h : ∀ p : Play, p.at_ < p.text.length → playStep l p = playStep l' p) : ∀ (n : Nat) (p : Play), play l n p = play l' n p
  | n, p => by
    by_cases hlt : p.at_ < p.text.length
    · match n with
      | 0 => rw [play_out hlt, play_out hlt]
      | n + 1 =>
        cases e : playStep l p with
        | none => rw [play_none hlt e, play_none hlt ((h p hlt).symm.trans e)]
        | some q => rw [play_next hlt e, play_next hlt ((h p hlt).symm.trans e)]; exact play_congr h n q
    · rw [play_end hlt, play_end hlt]

theorem find_erase {α : Type} {p : α → Bool} {l : List α} {k : Nat} {b : α} (hk : l[k]? = some b) (h : p b = true → ∃ m ∈ l.take k, p m = true) : (l.take k ++ l.drop (k + 1)).find? p = l.find? p := by
  have e : l = l.take k ++ b :: l.drop (k + 1) := by
    conv => lhs; rw [← List.take_append_drop k l, drop_cons hk]
  conv => rhs; rw [e]
  rw [List.find?_append, List.find?_append]
  cases hb : p b
  · rw [List.find?_cons_of_neg (by simp [hb])]
  · obtain ⟨m, hm, hp⟩ := h hb
    cases hf : (l.take k).find? p with
    | none => rw [List.find?_eq_none] at hf; exact absurd hp (hf m hm)
    | some x => rfl

theorem idxFrom_min {α : Type} {p : α → Bool} : ∀ {k j : Nat} {l : List α}, idxFrom p k l = (k + j : Nat) → ∀ i x, i < j → l[i]? = some x → p x = false
  | k, j, [], h, i, x, hi, hx => by simp at hx
  | k, j, y :: l, h, i, x, hi, hx => by
    unfold idxFrom at h
    by_cases hy : p y = true
    · rw [if_pos hy] at h; omega
    · rw [if_neg hy] at h
      match i with
      | 0 => simp at hx; subst hx; simpa using hy
      | i + 1 =>
        match j with
        | 0 => omega
        | j + 1 => exact idxFrom_min (k := k + 1) (j := j) (by rw [h]; congr 1; omega) i x (by omega) (by simpa using hx)

/-- is the k-th one masked by one ahead? -/
def isMasked (l : List Rule) (k : Nat) : Bool := match l[k]? with
  | none => false
  | some b => (l.take k).any fun a => masksB a b
theorem isMasked_at {l : List Rule} {k : Nat} {b : Rule} (h : l[k]? = some b) : isMasked l k = (l.take k).any fun a => masksB a b := by unfold isMasked; rw [h]
def maskedTo (l : List Rule) (k : Nat) : List Nat := (List.range k).filter (isMasked l)
theorem maskedTo_yes {l : List Rule} {k : Nat} (h : isMasked l k = true) : maskedTo l (k + 1) = maskedTo l k ++ [k] := by unfold maskedTo; rw [List.range_succ, List.filter_append]; simp [h]
theorem maskedTo_no {l : List Rule} {k : Nat} (h : isMasked l k = false) : maskedTo l (k + 1) = maskedTo l k := by unfold maskedTo; rw [List.range_succ, List.filter_append]; simp [h]
theorem maskedTo_len (l : List Rule) (k : Nat) : (maskedTo l k).length ≤ k := by unfold maskedTo; have := List.length_filter_le (isMasked l) (List.range k); simpa using this
theorem maskedTo_mem {l : List Rule} {k i : Nat} (h : i ∈ maskedTo l k) : i < k ∧ isMasked l i = true := by unfold maskedTo at h; simpa using h

theorem masked_ahead {l : List Rule} {k : Nat} (h : isMasked l k = true) : ∃ b i a, l[k]? = some b ∧ i < k ∧ l[i]? = some a ∧ masksB a b = true := by
  unfold isMasked at h
  cases hk : l[k]? with
  | none => rw [hk] at h; cases h
  | some b =>
    rw [hk] at h
    simp only [List.any_eq_true] at h
    obtain ⟨a, ha, hm⟩ := h
    obtain ⟨i, hi⟩ := List.getElem?_of_mem ha
    rw [List.getElem?_take] at hi
    split at hi
    · exact ⟨b, i, a, rfl, by assumption, hi, hm⟩
    · cases hi

theorem masked_not_first {l : List Rule} {k : Nat} {t : List Int} {x : Nat} (hx : x ≤ t.length) (h : isMasked l k = true) : first l t x ≠ k := by
  obtain ⟨b, i, a, hb, hi, ha, hm⟩ := masked_ahead h
  intro e
  obtain ⟨j, r, hj, hh, hf⟩ := first_mem (by omega : 0 ≤ first l t x)
  have : j = k := by omega
  subst this
  rw [hb] at hj
  cases hj
  have := idxFrom_min (k := 0) (j := j) (by unfold first at e; rw [e]; congr 1; omega) i a hi ha
  rw [masks_here hx hm hh] at this
  cases this

theorem masked_play {l : List Rule} {k : Nat} (h : isMasked l k = true) (n : Nat) (p : Play) : play (l.take k ++ l.drop (k + 1)) n p = play l n p := by
  obtain ⟨b, i, a, hb, hi, ha, hm⟩ := masked_ahead h
  refine play_congr (fun q hq => playStep_find (find_erase hb fun hh => ⟨a, ?_, masks_here (Nat.le_of_lt hq) hm hh⟩)) n p
  exact List.mem_of_getElem? (i := i) (by rw [List.getElem?_take, if_pos hi]; exact ha)

theorem erase_ok {l : List Rule} {k : Nat} (h : (wrongRules l).1 = 0) : (wrongRules (l.take k ++ l.drop (k + 1))) = (0, 0) := by
  obtain ⟨_, h2, h3⟩ := wrongRules_zero h
  refine wrongRules_of (by simp; omega) fun r hr => wrong_of_ok (h3 r ?_)
  rcases List.mem_append.1 hr with hr | hr
  · exact List.mem_of_mem_take hr
  · exact List.mem_of_mem_drop hr

/-- with a masked rule left out all comes to the same -/
theorem masked_run {l : List Rule} {k : Nat} {t : List Int} (h : (wrongRules l).1 = 0) (hm : isMasked l k = true) :
    runAll (l.take k ++ l.drop (k + 1)) t = runAll l t ∧ runF (l.take k ++ l.drop (k + 1)) t = runF l t := by
  have hc : checkRun (l.take k ++ l.drop (k + 1)) t = checkRun l t := by rw [checkRun_text h, checkRun_text (by rw [erase_ok h])]
  have hr : runText (l.take k ++ l.drop (k + 1)) t = runText l t := by unfold runText; exact masked_play hm _ _
  unfold runAll runF
  rw [hc, hr]
  exact ⟨rfl, rfl⟩

end Go.Proofs.Ytfdkbhbnldcbmaa
