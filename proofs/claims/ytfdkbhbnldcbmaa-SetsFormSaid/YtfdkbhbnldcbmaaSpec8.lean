/- Plain functions: what rules make of a text. No program in sight. -/
import Derived.Test.YtfdkbhbnldcbmaaRule
namespace Go.Proofs.Ytfdkbhbnldcbmaa
set_option linter.unusedVariables false
set_option linter.unusedSimpArgs false

/-- what is wrong with rules, and at which one -/
def wrongAt : Nat → List Rule → Int × Nat
  | _, [] => (0, 0)
  | k, r :: l => if wrongRule r ≠ 0 then (wrongRule r, k) else wrongAt (k + 1) l
def wrongRules (l : List Rule) : Int × Nat := if 200 < l.length then (5, 0) else wrongAt 0 l
theorem wrongAt_bad {k : Nat} {r : Rule} {l : List Rule} (h : wrongRule r ≠ 0) : wrongAt k (r :: l) = (wrongRule r, k) := by unfold wrongAt; rw [if_pos h]
theorem wrongAt_ok {k : Nat} {r : Rule} {l : List Rule} (h : wrongRule r = 0) : wrongAt k (r :: l) = wrongAt (k + 1) l := by rw [wrongAt, if_neg (by simp [h])]
theorem wrongAt_zero : ∀ {k : Nat} {l : List Rule}, (wrongAt k l).1 = 0 → wrongAt k l = (0, 0) ∧ ∀ r ∈ l, wrongRule r = 0
  | _, [], _ => ⟨rfl, fun r hr => by simp at hr⟩
  | k, r :: l, h => by
    by_cases hr : wrongRule r = 0
    · rw [wrongAt_ok hr] at h ⊢
      obtain ⟨h1, h2⟩ := wrongAt_zero h
      exact ⟨h1, fun x hx => (List.mem_cons.1 hx).elim (fun e => e ▸ hr) (h2 x)⟩
    · rw [wrongAt_bad hr] at h; exact absurd h hr
theorem wrongRules_zero {l : List Rule} (h : (wrongRules l).1 = 0) : wrongRules l = (0, 0) ∧ l.length ≤ 200 ∧ ∀ r ∈ l, OkRule r := by
  unfold wrongRules at h ⊢
  by_cases hb : 200 < l.length
  · rw [if_pos hb] at h; simp at h
  · rw [if_neg hb] at h ⊢
    obtain ⟨h1, h2⟩ := wrongAt_zero h
    exact ⟨h1, by omega, fun r hr => ok_of (h2 r hr)⟩
theorem wrongRules_big {l : List Rule} (h : 200 < l.length) : wrongRules l = (5, 0) := by unfold wrongRules; rw [if_pos h]
theorem wrongRules_small {l : List Rule} (h : ¬ 200 < l.length) : wrongRules l = wrongAt 0 l := by unfold wrongRules; rw [if_neg h]
theorem wrongAt_of : ∀ {k : Nat} {l : List Rule}, (∀ r ∈ l, wrongRule r = 0) → wrongAt k l = (0, 0)
  | _, [], _ => rfl
  | k, r :: l, h => by rw [wrongAt_ok (h r (by simp))]; exact wrongAt_of fun x hx => h x (by simp [hx])
theorem wrongRules_of {l : List Rule} (hl : l.length ≤ 200) (h : ∀ r ∈ l, wrongRule r = 0) : wrongRules l = (0, 0) := by
  rw [wrongRules_small (by omega)]; exact wrongAt_of h

/-- the first rule that matches; below 0: none -/
def first (l : List Rule) (t : List Int) (a : Int) : Int := idxFrom (fun r => here r t a) 0 l

/-- what is wrong with rules and a text -/
def checkRun (l : List Rule) (t : List Int) : Int × Nat := if (wrongRules l).1 ≠ 0 then wrongRules l else (wrongText t, 0)

theorem checkRun_rules {l : List Rule} {t : List Int} (h : (wrongRules l).1 ≠ 0) : checkRun l t = wrongRules l := by unfold checkRun; rw [if_pos h]
theorem checkRun_text {l : List Rule} {t : List Int} (h : (wrongRules l).1 = 0) : checkRun l t = (wrongText t, 0) := by unfold checkRun; rw [if_neg (by simp [h])]

/-- which rule is the first one that matches, and what is wrong -/
def whichF (l : List Rule) (t : List Int) (a : Int) : Int × Nat := if (checkRun l t).1 ≠ 0 then checkRun l t else if a < 0 ∨ (t.length : Int) < a then (3, 0) else (0, 0)
def whichV (l : List Rule) (t : List Int) (a : Int) : Int := if (whichF l t a).1 ≠ 0 then 0 else first l t a
theorem whichF_bad {l : List Rule} {t : List Int} {a : Int} (h : (checkRun l t).1 ≠ 0) : whichF l t a = checkRun l t := by unfold whichF; rw [if_pos h]
theorem whichF_far {l : List Rule} {t : List Int} {a : Int} (h : (checkRun l t).1 = 0) (ha : a < 0 ∨ (t.length : Int) < a) : whichF l t a = (3, 0) := by unfold whichF; rw [if_neg (by simp [h]), if_pos ha]
theorem whichF_in {l : List Rule} {t : List Int} {a : Int} (h : (checkRun l t).1 = 0) (ha : ¬ (a < 0 ∨ (t.length : Int) < a)) : whichF l t a = (0, 0) := by unfold whichF; rw [if_neg (by simp [h]), if_neg ha]
theorem whichV_bad {l : List Rule} {t : List Int} {a : Int} (h : (whichF l t a).1 ≠ 0) : whichV l t a = 0 := by unfold whichV; rw [if_pos h]
theorem whichV_in {l : List Rule} {t : List Int} {a : Int} (h : (whichF l t a).1 = 0) : whichV l t a = first l t a := by unfold whichV; rw [if_neg (by simp [h])]

/-- A text that is played over: what is there, where the cursor is, how many steps were taken, and how many put something in a place. -/
structure Play where
  text : List Int
  at_ : Nat
  steps : Nat
  put : Nat

/-- what is left of a play: an error and what came of it -/
structure Out where
  text : List Int
  steps : Nat
  put : Nat
  err : Int

def playStep (l : List Rule) (p : Play) : Option Play :=
  let k := first l p.text p.at_
  if k < 0 then some ⟨p.text, p.at_ + 1, p.steps + 1, p.put⟩
  else
    let r := l.getD k.toNat default
    if 4000 < (p.text.length : Int) - r.source.length + r.target.length then none
    else some ⟨putAt r p.text p.at_, p.at_ + r.cursor.toNat, p.steps + 1, p.put + 1⟩

/-- so many steps may still be taken -/
def play (l : List Rule) : Nat → Play → Out
  | n, p => if p.at_ < p.text.length then
      match n with
      | 0 => ⟨[], 0, 0, 9⟩
      | n + 1 => match playStep l p with
        | none => ⟨[], 0, 0, 4⟩
        | some q => play l n q
    else ⟨p.text, p.steps, p.put, 0⟩

theorem play_end {l : List Rule} {n : Nat} {p : Play} (h : ¬ p.at_ < p.text.length) : play l n p = ⟨p.text, p.steps, p.put, 0⟩ := by
  unfold play; rw [if_neg h]
theorem play_out {l : List Rule} {p : Play} (h : p.at_ < p.text.length) : play l 0 p = ⟨[], 0, 0, 9⟩ := by
  unfold play; rw [if_pos h]
theorem play_none {l : List Rule} {n : Nat} {p : Play} (h : p.at_ < p.text.length) (hs : playStep l p = none) : play l (n + 1) p = ⟨[], 0, 0, 4⟩ := by
  rw [play, if_pos h]; simp only [hs]
theorem play_next {l : List Rule} {n : Nat} {p q : Play} (h : p.at_ < p.text.length) (hs : playStep l p = some q) : play l (n + 1) p = play l n q := by
  rw [play, if_pos h]; simp only [hs]

/-- what is played over a text -/
def runText (l : List Rule) (t : List Int) : Out := play l (8 * t.length + 40) ⟨t, 0, 0, 0⟩
def runAll (l : List Rule) (t : List Int) : Out := if (checkRun l t).1 ≠ 0 then ⟨[], 0, 0, (checkRun l t).1⟩ else runText l t

/-- what is wrong, in all -/
def runF (l : List Rule) (t : List Int) : Int × Nat := if (checkRun l t).1 ≠ 0 then checkRun l t else ((runText l t).err, 0)
theorem runF_bad {l : List Rule} {t : List Int} (h : (checkRun l t).1 ≠ 0) : runF l t = checkRun l t := by unfold runF; rw [if_pos h]
theorem runF_ok {l : List Rule} {t : List Int} (h : (checkRun l t).1 = 0) : runF l t = ((runText l t).err, 0) := by unfold runF; rw [if_neg (by simp [h])]
theorem runAll_bad {l : List Rule} {t : List Int} (h : (checkRun l t).1 ≠ 0) : runAll l t = ⟨[], 0, 0, (checkRun l t).1⟩ := by unfold runAll; rw [if_pos h]
theorem runAll_ok {l : List Rule} {t : List Int} (h : (checkRun l t).1 = 0) : runAll l t = runText l t := by unfold runAll; rw [if_neg (by simp [h])]

theorem playStep_no {l : List Rule} {t : List Int} {a s p : Nat} (h : first l t a < 0) : playStep l ⟨t, a, s, p⟩ = some ⟨t, a + 1, s + 1, p⟩ := by
  unfold playStep; simp only []; rw [if_pos h]
theorem playStep_much {l : List Rule} {t : List Int} {a s p i : Nat} {r : Rule} (h : first l t a = i) (hr : l[i]? = some r) (hb : 4000 < (t.length : Int) - r.source.length + r.target.length) : playStep l ⟨t, a, s, p⟩ = none := by
  unfold playStep
  simp only [h, Int.toNat_natCast, List.getD, hr, Option.getD_some]
  rw [if_neg (by omega), if_pos hb]
theorem playStep_put {l : List Rule} {t : List Int} {a s p i : Nat} {r : Rule} (h : first l t a = i) (hr : l[i]? = some r) (hb : ¬ 4000 < (t.length : Int) - r.source.length + r.target.length) :
    playStep l ⟨t, a, s, p⟩ = some ⟨putAt r t a, a + r.cursor.toNat, s + 1, p + 1⟩ := by
  unfold playStep
  simp only [h, Int.toNat_natCast, List.getD, hr, Option.getD_some]
  rw [if_neg (by omega), if_neg hb]

end Go.Proofs.Ytfdkbhbnldcbmaa
