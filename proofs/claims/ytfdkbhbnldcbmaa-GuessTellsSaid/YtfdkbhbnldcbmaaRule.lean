/- Plain laws of right rules and texts. No program in sight. Plain laws of matching. Plain functions: what rules make of a text. No program in sight. -/
import Derived.Test.YtfdkbhbnldcbmaaW6
import Derived.Test.YtfdkbhbnldcbmaaCut
namespace Go.Proofs.Ytfdkbhbnldcbmaa
open Go.RowKit
set_option linter.unusedVariables false

theorem wrongSets_zero : ∀ {l : List (List Sp)}, wrongSets l = 0 → okSets l
  | [], _ => fun s hs => by simp at hs
  | s :: r, h => by
    unfold wrongSets at h
    by_cases hs : wrongSet s = 0
    · rw [if_neg (by simp [hs])] at h
      intro x hx
      rcases List.mem_cons.1 hx with rfl | hx
      · exact hs
      · exact wrongSets_zero h x hx
    · rw [if_pos hs] at h; exact absurd h hs
theorem wrongSets_of : ∀ {l : List (List Sp)}, okSets l → wrongSets l = 0
  | [], _ => rfl
  | s :: r, h => by
    rw [wrongSets_ok (h s (List.mem_cons_self ..))]
    exact wrongSets_of fun x hx => h x (List.mem_cons_of_mem _ hx)
theorem wrongSide_zero {l : List (List Sp)} (h : wrongSide l = 0) : l.length ≤ 20 ∧ okSets l := by
  unfold wrongSide at h
  by_cases hb : 20 < l.length
  · rw [if_pos hb] at h; simp at h
  · rw [if_neg hb] at h; exact ⟨by omega, wrongSets_zero h⟩
theorem wrongSide_of {l : List (List Sp)} (hl : l.length ≤ 20) (h : okSets l) : wrongSide l = 0 := by
  unfold wrongSide
  rw [if_neg (by omega)]; exact wrongSets_of h
theorem wrongSides_zero : ∀ {l : List (List (List Sp))}, wrongSides l = 0 → ∀ s ∈ l, wrongSide s = 0
  | [], _ => fun s hs => by simp at hs
  | s :: r, h => by
    unfold wrongSides at h
    by_cases hs : wrongSide s = 0
    · rw [if_neg (by simp [hs])] at h
      intro x hx
      rcases List.mem_cons.1 hx with rfl | hx
      · exact hs
      · exact wrongSides_zero h x hx
    · rw [if_pos hs] at h; exact absurd h hs

theorem ok_of {r : Rule} (h : wrongRule r = 0) : OkRule r := by
  have hs : wrongSides [r.before, r.source, r.after] = 0 := by
    by_cases hs : wrongSides [r.before, r.source, r.after] = 0
    · exact hs
    · rw [wrongRule_sides hs] at h; exact h
  have hz := wrongSides_zero hs
  obtain ⟨h1, h2⟩ := wrongSide_zero (hz r.before (by simp))
  obtain ⟨h3, h4⟩ := wrongSide_zero (hz r.source (by simp))
  obtain ⟨h5, h6⟩ := wrongSide_zero (hz r.after (by simp))
  rw [wrongRule_rest hs] at h
  unfold wrongRest at h
  by_cases c1 : r.source.length = 0
  · rw [if_pos c1] at h; simp at h
  rw [if_neg c1] at h
  by_cases c2 : 20 < r.target.length
  · rw [if_pos c2] at h; simp at h
  rw [if_neg c2] at h
  cases c3 : r.target.all right
  · rw [c3] at h; simp at h
  rw [c3] at h
  simp only [Bool.not_true, Bool.false_eq_true, if_false] at h
  by_cases c4 : r.cursor < 0 ∨ (r.target.length : Int) < r.cursor
  · rw [if_pos c4] at h; simp at h
  exact ⟨h2, h4, h6, h1, h3, h5, by omega, by omega, c3, by omega, by omega⟩
theorem wrong_of_ok {r : Rule} (h : OkRule r) : wrongRule r = 0 := by
  have hs : wrongSides [r.before, r.source, r.after] = 0 := by
    rw [wrongSides_ok (wrongSide_of h.lb h.b), wrongSides_ok (wrongSide_of h.ls h.s), wrongSides_ok (wrongSide_of h.la h.a)]; rfl
  rw [wrongRule_rest hs]
  unfold wrongRest
  have h1 := h.s0
  have h2 := h.lt
  have h3 := h.c0
  have h4 := h.c1
  rw [if_neg (by omega), if_neg (by omega), h.tr, if_neg (by simp), if_neg (by omega)]

theorem text_of {t : List Int} (h : wrongText t = 0) : t.length ≤ 4000 ∧ t.all right = true := by
  unfold wrongText at h
  by_cases c1 : 4000 < t.length
  · rw [if_pos c1] at h; simp at h
  rw [if_neg c1] at h
  cases c2 : t.all right
  · rw [c2] at h; simp at h
  · exact ⟨by omega, rfl⟩
theorem wrongText_of {t : List Int} (h1 : t.length ≤ 4000) (h2 : t.all right = true) : wrongText t = 0 := by
  unfold wrongText
  rw [if_neg (by omega), h2]; rfl

/-- the cells of a boxed rule -/
theorem RuleAt.box {w : World} {b : Nat} {s f : Bool} {A1 : Option Addr} {n1 c1 : Nat} {A2 : Option Addr} {n2 c2 : Nat} {A3 : Option Addr} {n3 c3 : Nat} {A4 : Option Addr} {n4 c4 : Nat} {q : Int} (h : RuleAt w b 0 s f A1 n1 c1 A2 n2 c2 A3 n3 c3 A4 n4 c4 q) :
    w.cell? ⟨b, 0, none⟩ = some (.bool s) ∧ w.cell? ⟨b, 1, none⟩ = some (.bool f) ∧ w.cell? ⟨b, 2, none⟩ = some (.slice A1 n1 c1) ∧ w.cell? ⟨b, 3, none⟩ = some (.slice A2 n2 c2) ∧
      w.cell? ⟨b, 4, none⟩ = some (.slice A3 n3 c3) ∧ w.cell? ⟨b, 5, none⟩ = some (.slice A4 n4 c4) ∧ w.cell? ⟨b, 6, none⟩ = some (.int .i64 q) :=
  ⟨h.h0, h.h1, h.h2, h.h3, h.h4, h.h5, h.h6⟩

/-- what Matches tells -/
def matchesErr (r : Rule) (t : List Int) (at_ : Int) : Int :=
  if wrongRule r ≠ 0 then wrongRule r else if wrongText t ≠ 0 then wrongText t else if at_ < 0 ∨ (t.length : Int) < at_ then 3 else 0
def matchesOk (r : Rule) (t : List Int) (at_ : Int) : Bool := decide (matchesErr r t at_ = 0) && here r t at_

/-- a text with a target in its source's place -/
def putAt (r : Rule) (t : List Int) (a : Nat) : List Int := t.take a ++ r.target ++ t.drop (a + r.source.length)

theorem results_tmp4 {fn : Func} {t u v x : Tmp} (h : fn.results = #[.tmp t, .tmp u, .tmp v, .tmp x]) (tmps : Array Value) (P : Program) (w : World) :
    (results fn tmps).run P w = .ok (.tuple #[tmps.getD t undef, tmps.getD u undef, tmps.getD v undef, tmps.getD x undef]) w := by simp [results, h]

end Go.Proofs.Ytfdkbhbnldcbmaa

namespace Go.Proofs.Ytfdkbhbnldcbmaa
open Go.RowKit
set_option linter.unusedVariables false
set_option linter.unusedSimpArgs false

theorem zipHas_append : ∀ (a b : List (List Sp)) (t : List Int), zipHas (a ++ b) t = (zipHas a t && zipHas b (t.drop a.length))
  | [], b, t => by simp [zipHas]
  | s :: a, b, [] => by cases b <;> simp [zipHas]
  | s :: a, b, x :: t => by simp [zipHas, zipHas_append a b t, Bool.and_assoc]
theorem zipHas_len : ∀ (l : List (List Sp)) (t : List Int), zipHas l t = true → l.length ≤ t.length
  | [], t, _ => by simp
  | s :: l, [], h => by simp [zipHas] at h
  | s :: l, x :: t, h => by
    simp only [zipHas, Bool.and_eq_true] at h
    have := zipHas_len l t h.2
    simp; omega
theorem winAt_nat (t : List Int) : ∀ (l : List (List Sp)) (f : Nat), winAt t f l = zipHas l (t.drop f)
  | [], f => by simp [winAt, zipHas]
  | s :: r, f => by
    by_cases hf : f < t.length
    · have hx : t[f]? = some t[f] := List.getElem?_eq_getElem hf
      rw [winAt_in hx, drop_cons hx]
      have := winAt_nat t r (f + 1)
      rw [show ((f : Int) + 1) = ((f + 1 : Nat) : Int) by omega, this]
      rfl
    · rw [winAt_far (by omega), List.drop_of_length_le (by omega)]; rfl
theorem allAt_nat {t : List Int} {f : Nat} (l : List (List Sp)) (hf : f ≤ t.length) : allAt t f l = zipHas l (t.drop f) := by
  unfold allAt
  rw [decide_eq_true (by omega), Int.toNat_natCast]
  cases hz : zipHas l (t.drop f)
  · simp
  · have := zipHas_len _ _ hz
    simp at this
    simp; omega

theorem ref_here {r : Rule} {t : List Int} {a : Nat} (hs : 0 < r.source.length) (ha : a ≤ t.length) : refMatch r t a = here r t a := by
  unfold refMatch here
  by_cases hb : r.before.length ≤ a
  · obtain ⟨f, rfl⟩ : ∃ f, a = f + r.before.length := ⟨a - r.before.length, by omega⟩
    have e1 : ((f + r.before.length : Nat) : Int) - r.before.length = (f : Int) := by omega
    rw [e1, winAt_nat, zipHas_append, zipHas_append, List.drop_drop, List.drop_drop, allAt_nat _ ha, allAt_nat _ (by omega)]
    rw [show ((f + r.before.length : Nat) : Int) + r.source.length = ((f + r.before.length + r.source.length : Nat) : Int) by omega]
    have e2 : f + (r.before ++ r.source).length = f + r.before.length + r.source.length := by simp; omega
    rw [e2]
    cases h1 : zipHas r.before (t.drop f)
    · simp
    cases h2 : zipHas r.source (t.drop (f + r.before.length))
    · simp
    have hl := zipHas_len _ _ h2
    simp only [List.length_drop] at hl
    rw [allAt_nat _ (by omega)]
    cases h3 : zipHas r.after (t.drop (f + r.before.length + r.source.length))
    · simp
    have hl3 := zipHas_len _ _ h3
    simp only [List.length_drop] at hl3
    simp only [Bool.true_and]
    congr 1
    · congr 2
      rw [decide_eq_decide]
      omega
    · congr 2
      rw [decide_eq_decide]
      simp only [List.length_append]
      omega
  · have hn : (a : Int) - r.before.length < 0 := by omega
    have hne : r.before ++ r.source ++ r.after = (r.before ++ r.source ++ r.after).headD [] :: (r.before ++ r.source ++ r.after).tail := by
      cases h : r.before ++ r.source ++ r.after with
      | nil => simp at h; rw [h.2.1] at hs; simp at hs
      | cons x y => rfl
    rw [hne, winAt_neg hn, allAt_neg (l := r.before) hn]
    simp

end Go.Proofs.Ytfdkbhbnldcbmaa

namespace Go.Proofs.Ytfdkbhbnldcbmaa
set_option linter.unusedVariables false
set_option linter.unusedSimpArgs false

/-- what is wrong with rules, and at which one -/
def wrongAt : Nat → List Rule → Int × Nat
  | _, [] => (0, 0)
  | k, r :: l => if wrongRule r ≠ 0 then (wrongRule r, k) else wrongAt (k + 1) l
def wrongRules (l : List Rule) : Int × Nat := if 200 < l.length then (5, 0) else wrongAt 0 l
theorem wrongAt_bad {k : Nat} {r : Rule} {l : List Rule} (h : wrongRule r ≠ 0) : wrongAt k (r :: l) = (wrongRule r, k) := by unfold wrongAt; rw [if_pos h]
theorem wrongAt_ok {k : Nat} {r : Rule} {l : List Rule} (h : wrongRule r = 0) : wrongAt k (r :: l) = wrongAt (k + 1) l := by rw [wrongAt, if_neg (by simp [h])]
theorem wrongAt_zero : ∀ {k : Nat} {l : List Rule}, (wrongAt k l).1 = 0 → wrongAt k l = (0, 0) ∧ ∀ r ∈ l, wrongRule r = 0
  | _, [], _ => ⟨rfl, fun r hr => by simp at hr⟩
  | k, r :: l, h => by
    by_cases hr : wrongRule r = 0
    · rw [wrongAt_ok hr] at h ⊢
      obtain ⟨h1, h2⟩ := wrongAt_zero h
      exact ⟨h1, fun x hx => (List.mem_cons.1 hx).elim (fun e => e ▸ hr) (h2 x)⟩
    · rw [wrongAt_bad hr] at h; exact absurd h hr
theorem wrongRules_zero {l : List Rule} (h : (wrongRules l).1 = 0) : wrongRules l = (0, 0) ∧ l.length ≤ 200 ∧ ∀ r ∈ l, OkRule r := by
  unfold wrongRules at h ⊢
  by_cases hb : 200 < l.length
  · rw [if_pos hb] at h; simp at h
  · rw [if_neg hb] at h ⊢
    obtain ⟨h1, h2⟩ := wrongAt_zero h
    exact ⟨h1, by omega, fun r hr => ok_of (h2 r hr)⟩
theorem wrongRules_big {l : List Rule} (h : 200 < l.length) : wrongRules l = (5, 0) := by unfold wrongRules; rw [if_pos h]
theorem wrongRules_small {l : List Rule} (h : ¬ 200 < l.length) : wrongRules l = wrongAt 0 l := by unfold wrongRules; rw [if_neg h]
theorem wrongAt_of : ∀ {k : Nat} {l : List Rule}, (∀ r ∈ l, wrongRule r = 0) → wrongAt k l = (0, 0)
  | _, [], _ => rfl
  | k, r :: l, h => by rw [wrongAt_ok (h r (by simp))]; exact wrongAt_of fun x hx => h x (by simp [hx])
theorem wrongRules_of {l : List Rule} (hl : l.length ≤ 200) (h : ∀ r ∈ l, wrongRule r = 0) : wrongRules l = (0, 0) := by
  rw [wrongRules_small (by omega)]; exact wrongAt_of h

/-- the first rule that matches; below 0: none -/
def first (l : List Rule) (t : List Int) (a : Int) : Int := idxFrom (fun r => here r t a) 0 l

/-- what is wrong with rules and a text -/
def checkRun (l : List Rule) (t : List Int) : Int × Nat := if (wrongRules l).1 ≠ 0 then wrongRules l else (wrongText t, 0)

theorem checkRun_rules {l : List Rule} {t : List Int} (h : (wrongRules l).1 ≠ 0) : checkRun l t = wrongRules l := by unfold checkRun; rw [if_pos h]
theorem checkRun_text {l : List Rule} {t : List Int} (h : (wrongRules l).1 = 0) : checkRun l t = (wrongText t, 0) := by unfold checkRun; rw [if_neg (by simp [h])]

/-- which rule is the first one that matches, and what is wrong -/
def whichF (l : List Rule) (t : List Int) (a : Int) : Int × Nat := if (checkRun l t).1 ≠ 0 then checkRun l t else if a < 0 ∨ (t.length : Int) < a then (3, 0) else (0, 0)
def whichV (l : List Rule) (t : List Int) (a : Int) : Int := if (whichF l t a).1 ≠ 0 then 0 else first l t a
theorem whichF_bad {l : List Rule} {t : List Int} {a : Int} (h : (checkRun l t).1 ≠ 0) : whichF l t a = checkRun l t := by unfold whichF; rw [if_pos h]
theorem whichF_far {l : List Rule} {t : List Int} {a : Int} (h : (checkRun l t).1 = 0) (ha : a < 0 ∨ (t.length : Int) < a) : whichF l t a = (3, 0) := by unfold whichF; rw [if_neg (by simp [h]), if_pos ha]
theorem whichF_in {l : List Rule} {t : List Int} {a : Int} (h : (checkRun l t).1 = 0) (ha : ¬ (a < 0 ∨ (t.length : Int) < a)) : whichF l t a = (0, 0) := by unfold whichF; rw [if_neg (by simp [h]), if_neg ha]
theorem whichV_bad {l : List Rule} {t : List Int} {a : Int} (h : (whichF l t a).1 ≠ 0) : whichV l t a = 0 := by unfold whichV; rw [if_pos h]
theorem whichV_in {l : List Rule} {t : List Int} {a : Int} (h : (whichF l t a).1 = 0) : whichV l t a = first l t a := by unfold whichV; rw [if_neg (by simp [h])]

/-- A text that is played over: what is there, where the cursor is, how many steps were taken, and how many put something in a place. -/
structure Play where
  text : List Int
  at_ : Nat
  steps : Nat
  put : Nat

/-- what is left of a play: an error and what came of it -/
structure Out where
  text : List Int
  steps : Nat
  put : Nat
  err : Int

def playStep (l : List Rule) (p : Play) : Option Play :=
  let k := first l p.text p.at_
  if k < 0 then some ⟨p.text, p.at_ + 1, p.steps + 1, p.put⟩
  else
    let r := l.getD k.toNat default
    if 4000 < (p.text.length : Int) - r.source.length + r.target.length then none
    else some ⟨putAt r p.text p.at_, p.at_ + r.cursor.toNat, p.steps + 1, p.put + 1⟩

/-- so many steps may still be taken -/
def play (l : List Rule) : Nat → Play → Out
  | n, p => if p.at_ < p.text.length then
      match n with
      | 0 => ⟨[], 0, 0, 9⟩
      | n + 1 => match playStep l p with
        | none => ⟨[], 0, 0, 4⟩
        | some q => play l n q
    else ⟨p.text, p.steps, p.put, 0⟩

theorem play_end {l : List Rule} {n : Nat} {p : Play} (h : ¬ p.at_ < p.text.length) : play l n p = ⟨p.text, p.steps, p.put, 0⟩ := by
  unfold play; rw [if_neg h]
theorem play_out {l : List Rule} {p : Play} (h : p.at_ < p.text.length) : play l 0 p = ⟨[], 0, 0, 9⟩ := by
  unfold play; rw [if_pos h]
theorem play_none {l : List Rule} {n : Nat} {p : Play} (h : p.at_ < p.text.length) (hs : playStep l p = none) : play l (n + 1) p = ⟨[], 0, 0, 4⟩ := by
  rw [play, if_pos h]; simp only [hs]
theorem play_next {l : List Rule} {n : Nat} {p q : Play} (h : p.at_ < p.text.length) (hs : playStep l p = some q) : play l (n + 1) p = play l n q := by
  rw [play, if_pos h]; simp only [hs]

/-- what is played over a text -/
def runText (l : List Rule) (t : List Int) : Out := play l (8 * t.length + 40) ⟨t, 0, 0, 0⟩
def runAll (l : List Rule) (t : List Int) : Out := if (checkRun l t).1 ≠ 0 then ⟨[], 0, 0, (checkRun l t).1⟩ else runText l t

/-- what is wrong, in all -/
def runF (l : List Rule) (t : List Int) : Int × Nat := if (checkRun l t).1 ≠ 0 then checkRun l t else ((runText l t).err, 0)
theorem runF_bad {l : List Rule} {t : List Int} (h : (checkRun l t).1 ≠ 0) : runF l t = checkRun l t := by unfold runF; rw [if_pos h]
theorem runF_ok {l : List Rule} {t : List Int} (h : (checkRun l t).1 = 0) : runF l t = ((runText l t).err, 0) := by unfold runF; rw [if_neg (by simp [h])]
theorem runAll_bad {l : List Rule} {t : List Int} (h : (checkRun l t).1 ≠ 0) : runAll l t = ⟨[], 0, 0, (checkRun l t).1⟩ := by unfold runAll; rw [if_pos h]
theorem runAll_ok {l : List Rule} {t : List Int} (h : (checkRun l t).1 = 0) : runAll l t = runText l t := by unfold runAll; rw [if_neg (by simp [h])]

theorem playStep_no {l : List Rule} {t : List Int} {a s p : Nat} (h : first l t a < 0) : playStep l ⟨t, a, s, p⟩ = some ⟨t, a + 1, s + 1, p⟩ := by
  unfold playStep; simp only []; rw [if_pos h]
theorem playStep_much {l : List Rule} {t : List Int} {a s p i : Nat} {r : Rule} (h : first l t a = i) (hr : l[i]? = some r) (hb : 4000 < (t.length : Int) - r.source.length + r.target.length) : playStep l ⟨t, a, s, p⟩ = none := by
  unfold playStep
  simp only [h, Int.toNat_natCast, List.getD, hr, Option.getD_some]
  rw [if_neg (by omega), if_pos hb]
theorem playStep_put {l : List Rule} {t : List Int} {a s p i : Nat} {r : Rule} (h : first l t a = i) (hr : l[i]? = some r) (hb : ¬ 4000 < (t.length : Int) - r.source.length + r.target.length) :
    playStep l ⟨t, a, s, p⟩ = some ⟨putAt r t a, a + r.cursor.toNat, s + 1, p + 1⟩ := by
  unfold playStep
  simp only [h, Int.toNat_natCast, List.getD, hr, Option.getD_some]
  rw [if_neg (by omega), if_neg hb]

end Go.Proofs.Ytfdkbhbnldcbmaa
