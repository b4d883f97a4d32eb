/- The plain functions: what the Go functions compute, on lists of numbers. No program in sight. -/
import Derived.Test.YtfdkbhbnldcbmaaMem
namespace Go.Proofs.Ytfdkbhbnldcbmaa
set_option linter.unusedVariables false

theorem drop_cons {α : Type} {l : List α} {k : Nat} {x : α} (h : l[k]? = some x) : l.drop k = x :: l.drop (k + 1) := by
  obtain ⟨hk, rfl⟩ := List.getElem?_eq_some_iff.1 h
  exact List.drop_eq_getElem_cons hk
theorem drop_end {α : Type} {l : List α} {k n : Nat} (hl : l.length = n) (h : ¬ k < n) : l.drop k = [] := List.drop_of_length_le (by omega)

/-! ### runes -/
def right (r : Int) : Bool := decide (0 ≤ r) && decide (r ≤ 1114111) && (decide (r < 55296) || decide (57343 < r))

/-- the first place from k on where p holds; below 0: none -/
def idxFrom {α : Type} (p : α → Bool) : Nat → List α → Int
  | _, [] => -1
  | k, x :: r => if p x then (k : Int) else idxFrom p (k + 1) r
theorem idxFrom_neg {α : Type} (p : α → Bool) : ∀ (k : Nat) (l : List α), l.any p = false → idxFrom p k l = -1
  | _, [], _ => rfl
  | k, x :: r, h => by
    simp only [List.any_cons, Bool.or_eq_false_iff] at h
    simp [idxFrom, h.1, idxFrom_neg p (k + 1) r h.2]
theorem idxFrom_nonneg {α : Type} (p : α → Bool) : ∀ (k : Nat) (l : List α), l.any p = true → 0 ≤ idxFrom p k l
  | _, [], h => by simp at h
  | k, x :: r, h => by
    unfold idxFrom
    split
    · omega
    · rename_i hx
      simp only [List.any_cons, Bool.or_eq_true] at h
      exact idxFrom_nonneg p (k + 1) r (h.resolve_left hx)
theorem idxFrom_geq {α : Type} (p : α → Bool) (k : Nat) (l : List α) : decide (0 ≤ idxFrom p k l) = l.any p := by
  cases h : l.any p
  · rw [idxFrom_neg p k l h]; rfl
  · simpa using idxFrom_nonneg p k l h
theorem idxFrom_le {α : Type} (p : α → Bool) : ∀ (k : Nat) (l : List α), -1 ≤ idxFrom p k l ∧ idxFrom p k l ≤ k + l.length
  | k, [] => by simp only [idxFrom, List.length_nil]; omega
  | k, x :: r => by
    unfold idxFrom
    have h := idxFrom_le p (k + 1) r
    simp only [List.length_cons]
    split <;> omega

/-! ### sets of runes -/
def spBad (x : Sp) : Bool := decide (x.lo < 0) || decide (1114111 < x.hi) || decide (x.hi < x.lo)
def near (p : Option Sp) (x : Sp) : Bool := match p with | none => false | some y => decide (x.lo ≤ y.hi + 1)
def wrongFrom : Option Sp → List Sp → Int
  | _, [] => 0
  | p, x :: r => if spBad x then 3 else if near p x then 2 else wrongFrom (some x) r
theorem wrongFrom_bad {p : Option Sp} {x : Sp} {r : List Sp} (h : spBad x = true) : wrongFrom p (x :: r) = 3 := by simp [wrongFrom, h]
theorem wrongFrom_near {p : Option Sp} {x : Sp} {r : List Sp} (h : spBad x = false) (hn : near p x = true) : wrongFrom p (x :: r) = 2 := by simp [wrongFrom, h, hn]
theorem wrongFrom_next {p : Option Sp} {x : Sp} {r : List Sp} (h : spBad x = false) (hn : near p x = false) : wrongFrom p (x :: r) = wrongFrom (some x) r := by simp [wrongFrom, h, hn]
theorem near_none (x : Sp) : near none x = false := rfl
theorem near_yes {x y : Sp} (h : x.lo ≤ y.hi + 1) : near (some y) x = true := by simpa [near] using h
theorem near_no {x y : Sp} (h : ¬ x.lo ≤ y.hi + 1) : near (some y) x = false := by simpa [near] using h
theorem spBad_no {x : Sp} (h : spBad x = false) : 0 ≤ x.lo ∧ x.hi ≤ 1114111 ∧ x.lo ≤ x.hi := by
  have : ¬ x.lo < 0 ∧ ¬ 1114111 < x.hi ∧ ¬ x.hi < x.lo := by simpa [spBad, and_assoc] using h
  omega
theorem spBad_yes {x : Sp} (h : spBad x = true) : x.lo < 0 ∨ 1114111 < x.hi ∨ x.hi < x.lo := by simpa [spBad, or_assoc] using h
def wrongSet (s : List Sp) : Int := if 200 < s.length then 5 else wrongFrom none s
/-- the one ahead of place k -/
def prev {α : Type} (l : List α) (k : Nat) : Option α := if k = 0 then none else l[k - 1]?
theorem prev_succ {α : Type} {l : List α} {k : Nat} {x : α} (h : l[k]? = some x) : prev l (k + 1) = some x := by simp [prev, h]

def inSp (x : Sp) (r : Int) : Bool := decide (x.lo ≤ r) && decide (r ≤ x.hi)
def has (s : List Sp) (r : Int) : Bool := s.any fun x => inSp x r

/-! ### rules and texts -/
def wrongSets : List (List Sp) → Int
  | [] => 0
  | s :: r => if wrongSet s ≠ 0 then wrongSet s else wrongSets r
def wrongSide (l : List (List Sp)) : Int := if 20 < l.length then 5 else wrongSets l
def wrongSides : List (List (List Sp)) → Int
  | [] => 0
  | s :: r => if wrongSide s ≠ 0 then wrongSide s else wrongSides r
theorem wrongSets_bad {s : List Sp} {r : List (List Sp)} (h : wrongSet s ≠ 0) : wrongSets (s :: r) = wrongSet s := by unfold wrongSets; rw [if_pos h]
theorem wrongSets_ok {s : List Sp} {r : List (List Sp)} (h : wrongSet s = 0) : wrongSets (s :: r) = wrongSets r := by rw [wrongSets, if_neg (by simp [h])]
theorem wrongSides_bad {s : List (List Sp)} {r : List (List (List Sp))} (h : wrongSide s ≠ 0) : wrongSides (s :: r) = wrongSide s := by unfold wrongSides; rw [if_pos h]
theorem wrongSides_ok {s : List (List Sp)} {r : List (List (List Sp))} (h : wrongSide s = 0) : wrongSides (s :: r) = wrongSides r := by rw [wrongSides, if_neg (by simp [h])]
theorem wrongSide_big {s : List (List Sp)} {n : Nat} (hl : s.length = n) (h : 20 < n) : wrongSide s = 5 := by unfold wrongSide; rw [if_pos (by omega)]
theorem wrongSide_small {s : List (List Sp)} {n : Nat} (hl : s.length = n) (h : ¬ 20 < n) : wrongSide s = wrongSets s := by unfold wrongSide; rw [if_neg (by omega)]
theorem wrongFrom_bd : ∀ (l : List Sp) (p : Option Sp), 0 ≤ wrongFrom p l ∧ wrongFrom p l ≤ 3
  | [], _ => by simp [wrongFrom]
  | x :: r, p => by
    unfold wrongFrom
    have := wrongFrom_bd r (some x)
    split
    · omega
    · split <;> omega
theorem wrongSet_bd (s : List Sp) : 0 ≤ wrongSet s ∧ wrongSet s ≤ 5 := by
  unfold wrongSet
  have := wrongFrom_bd s none
  split <;> omega
def wrongRule (r : Rule) : Int :=
  if wrongSides [r.before, r.source, r.after] ≠ 0 then wrongSides [r.before, r.source, r.after]
  else if r.source.length = 0 then 6 else if 20 < r.target.length then 5 else if !(r.target.all right) then 3
  else if r.cursor < 0 ∨ (r.target.length : Int) < r.cursor then 3 else 0
theorem wrongRule_sides {r : Rule} (h : wrongSides [r.before, r.source, r.after] ≠ 0) : wrongRule r = wrongSides [r.before, r.source, r.after] := by unfold wrongRule; rw [if_pos h]
def wrongRest (r : Rule) : Int := if r.source.length = 0 then 6 else if 20 < r.target.length then 5 else if !(r.target.all right) then 3
  else if r.cursor < 0 ∨ (r.target.length : Int) < r.cursor then 3 else 0
theorem wrongRule_rest {r : Rule} (h : wrongSides [r.before, r.source, r.after] = 0) : wrongRule r = wrongRest r := by unfold wrongRule; rw [if_neg (by simp [h])]; rfl
def wrongText (l : List Int) : Int := if 4000 < l.length then 4 else if !(l.all right) then 3 else 0

end Go.Proofs.Ytfdkbhbnldcbmaa
