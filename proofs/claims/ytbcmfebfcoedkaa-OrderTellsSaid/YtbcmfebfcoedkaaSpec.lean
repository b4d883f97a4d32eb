/- The plain functions: what the Go functions compute, on lists of numbers. No program in sight. Plain laws of right sets. No program in sight. Plain functions: matching and playing. -/
import Derived.Test.YtbcmfebfcoedkaaMem
namespace Go.Proofs.Ytbcmfebfcoedkaa
set_option linter.unusedVariables false

theorem drop_cons {α : Type} {l : List α} {k : Nat} {x : α} (h : l[k]? = some x) : l.drop k = x :: l.drop (k + 1) := by
  obtain ⟨hk, rfl⟩ := List.getElem?_eq_some_iff.1 h
  exact List.drop_eq_getElem_cons hk
theorem drop_end {α : Type} {l : List α} {k n : Nat} (hl : l.length = n) (h : ¬ k < n) : l.drop k = [] := List.drop_of_length_le (by omega)

/-! ### runes -/
def right (r : Int) : Bool := decide (0 ≤ r) && decide (r ≤ 1114111) && (decide (r < 55296) || decide (57343 < r))

/-- the first place from k on where p holds; below 0: none -/
def idxFrom {α : Type} (p : α → Bool) : Nat → List α → Int
  | _, [] => -1
  | k, x :: r => if p x then (k : Int) else idxFrom p (k + 1) r
theorem idxFrom_neg {α : Type} (p : α → Bool) : ∀ (k : Nat) (l : List α), l.any p = false → idxFrom p k l = -1
  | _, [], _ => rfl
  | k, x :: r, h => by
    simp only [List.any_cons, Bool.or_eq_false_iff] at h
    simp [idxFrom, h.1, idxFrom_neg p (k + 1) r h.2]
theorem idxFrom_nonneg {α : Type} (p : α → Bool) : ∀ (k : Nat) (l : List α), l.any p = true → 0 ≤ idxFrom p k l
  | _, [], h => by simp at h
  | k, x :: r, h => by
    unfold idxFrom
    split
    · omega
    · rename_i hx
      simp only [List.any_cons, Bool.or_eq_true] at h
      exact idxFrom_nonneg p (k + 1) r (h.resolve_left hx)
theorem idxFrom_geq {α : Type} (p : α → Bool) (k : Nat) (l : List α) : decide (0 ≤ idxFrom p k l) = l.any p := by
  cases h : l.any p
  · rw [idxFrom_neg p k l h]; rfl
  · simpa using idxFrom_nonneg p k l h
theorem idxFrom_le {α : Type} (p : α → Bool) : ∀ (k : Nat) (l : List α), -1 ≤ idxFrom p k l ∧ idxFrom p k l ≤ k + l.length
  | k, [] => by simp only [idxFrom, List.length_nil]; omega
  | k, x :: r => by
    unfold idxFrom
    have h := idxFrom_le p (k + 1) r
    simp only [List.length_cons]
    split <;> omega

/-! ### sets of runes -/
def spBad (x : Sp) : Bool := decide (x.lo < 0) || decide (1114111 < x.hi) || decide (x.hi < x.lo)
def near (p : Option Sp) (x : Sp) : Bool := match p with | none => false | some y => decide (x.lo ≤ y.hi + 1)
def wrongFrom : Option Sp → List Sp → Int
  | _, [] => 0
  | p, x :: r => if spBad x then 3 else if near p x then 2 else wrongFrom (some x) r
theorem wrongFrom_bad {p : Option Sp} {x : Sp} {r : List Sp} (h : spBad x = true) : wrongFrom p (x :: r) = 3 := by simp [wrongFrom, h]
theorem wrongFrom_near {p : Option Sp} {x : Sp} {r : List Sp} (h : spBad x = false) (hn : near p x = true) : wrongFrom p (x :: r) = 2 := by simp [wrongFrom, h, hn]
theorem wrongFrom_next {p : Option Sp} {x : Sp} {r : List Sp} (h : spBad x = false) (hn : near p x = false) : wrongFrom p (x :: r) = wrongFrom (some x) r := by simp [wrongFrom, h, hn]
theorem near_none (x : Sp) : near none x = false := rfl
theorem near_yes {x y : Sp} (h : x.lo ≤ y.hi + 1) : near (some y) x = true := by simpa [near] using h
theorem near_no {x y : Sp} (h : ¬ x.lo ≤ y.hi + 1) : near (some y) x = false := by simpa [near] using h
theorem spBad_no {x : Sp} (h : spBad x = false) : 0 ≤ x.lo ∧ x.hi ≤ 1114111 ∧ x.lo ≤ x.hi := by
  have : ¬ x.lo < 0 ∧ ¬ 1114111 < x.hi ∧ ¬ x.hi < x.lo := by simpa [spBad, and_assoc] using h
  omega
theorem spBad_yes {x : Sp} (h : spBad x = true) : x.lo < 0 ∨ 1114111 < x.hi ∨ x.hi < x.lo := by simpa [spBad, or_assoc] using h
def wrongSet (s : List Sp) : Int := if 200 < s.length then 5 else wrongFrom none s
/-- the one ahead of place k -/
def prev {α : Type} (l : List α) (k : Nat) : Option α := if k = 0 then none else l[k - 1]?
theorem prev_succ {α : Type} {l : List α} {k : Nat} {x : α} (h : l[k]? = some x) : prev l (k + 1) = some x := by simp [prev, h]

def inSp (x : Sp) (r : Int) : Bool := decide (x.lo ≤ r) && decide (r ≤ x.hi)
def has (s : List Sp) (r : Int) : Bool := s.any fun x => inSp x r

/-! ### rules and texts -/
def wrongSets : List (List Sp) → Int
  | [] => 0
  | s :: r => if wrongSet s ≠ 0 then wrongSet s else wrongSets r
def wrongSide (l : List (List Sp)) : Int := if 20 < l.length then 5 else wrongSets l
def wrongSides : List (List (List Sp)) → Int
  | [] => 0
  | s :: r => if wrongSide s ≠ 0 then wrongSide s else wrongSides r
theorem wrongSets_bad {s : List Sp} {r : List (List Sp)} (h : wrongSet s ≠ 0) : wrongSets (s :: r) = wrongSet s := by unfold wrongSets; rw [if_pos h]
theorem wrongSets_ok {s : List Sp} {r : List (List Sp)} (h : wrongSet s = 0) : wrongSets (s :: r) = wrongSets r := by rw [wrongSets, if_neg (by simp [h])]
theorem wrongSides_bad {s : List (List Sp)} {r : List (List (List Sp))} (h : wrongSide s ≠ 0) : wrongSides (s :: r) = wrongSide s := by unfold wrongSides; rw [if_pos h]
theorem wrongSides_ok {s : List (List Sp)} {r : List (List (List Sp))} (h : wrongSide s = 0) : wrongSides (s :: r) = wrongSides r := by rw [wrongSides, if_neg (by simp [h])]
theorem wrongSide_big {s : List (List Sp)} {n : Nat} (hl : s.length = n) (h : 20 < n) : wrongSide s = 5 := by unfold wrongSide; rw [if_pos (by omega)]
theorem wrongSide_small {s : List (List Sp)} {n : Nat} (hl : s.length = n) (h : ¬ 20 < n) : wrongSide s = wrongSets s := by unfold wrongSide; rw [if_neg (by omega)]
theorem wrongFrom_bd : ∀ (l : List Sp) (p : Option Sp), 0 ≤ wrongFrom p l ∧ wrongFrom p l ≤ 3
  | [], _ => by simp [wrongFrom]
  | x :: r, p => by
    unfold wrongFrom
    have := wrongFrom_bd r (some x)
    split
    · omega
    · split <;> omega
theorem wrongSet_bd (s : List Sp) : 0 ≤ wrongSet s ∧ wrongSet s ≤ 5 := by
  unfold wrongSet
  have := wrongFrom_bd s none
  split <;> omega
def wrongRule (r : Rule) : Int :=
  if wrongSides [r.before, r.source, r.after] ≠ 0 then wrongSides [r.before, r.source, r.after]
  else if r.source.length = 0 then 6 else if 20 < r.target.length then 5 else if !(r.target.all right) then 3
  else if r.cursor < 0 ∨ (r.target.length : Int) < r.cursor then 3 else 0
theorem wrongRule_sides {r : Rule} (h : wrongSides [r.before, r.source, r.after] ≠ 0) : wrongRule r = wrongSides [r.before, r.source, r.after] := by unfold wrongRule; rw [if_pos h]
def wrongRest (r : Rule) : Int := if r.source.length = 0 then 6 else if 20 < r.target.length then 5 else if !(r.target.all right) then 3
  else if r.cursor < 0 ∨ (r.target.length : Int) < r.cursor then 3 else 0
theorem wrongRule_rest {r : Rule} (h : wrongSides [r.before, r.source, r.after] = 0) : wrongRule r = wrongRest r := by unfold wrongRule; rw [if_neg (by simp [h])]; rfl
def wrongText (l : List Int) : Int := if 4000 < l.length then 4 else if !(l.all right) then 3 else 0

end Go.Proofs.Ytbcmfebfcoedkaa

namespace Go.Proofs.Ytbcmfebfcoedkaa
set_option linter.unusedVariables false

/-- a right set -/
structure Good (l : List Sp) : Prop where
  len : l.length ≤ 200
  rng : ∀ x ∈ l, 0 ≤ x.lo ∧ x.lo ≤ x.hi ∧ x.hi ≤ 1114111
  pw : l.Pairwise fun a b => a.hi + 1 < b.lo

theorem wrongFrom_zero : ∀ (l : List Sp) (p : Option Sp), wrongFrom p l = 0 →
    (∀ x ∈ l, 0 ≤ x.lo ∧ x.lo ≤ x.hi ∧ x.hi ≤ 1114111) ∧ l.Pairwise (fun a b => a.hi + 1 < b.lo) ∧ ∀ y, p = some y → ∀ x ∈ l, y.hi + 1 < x.lo
  | [], p, _ => ⟨fun x hx => by simp at hx, List.Pairwise.nil, fun y _ x hx => by simp at hx⟩
  | x :: r, p, h => by
    unfold wrongFrom at h
    by_cases hb : spBad x = true
    · rw [if_pos hb] at h; simp at h
    · rw [if_neg hb] at h
      by_cases hn : near p x = true
      · rw [if_pos hn] at h; simp at h
      · rw [if_neg hn] at h
        have hb' := spBad_no (by simpa using hb)
        obtain ⟨h1, h2, h3⟩ := wrongFrom_zero r (some x) h
        have h3' := h3 x rfl
        have hn' : ∀ y, p = some y → y.hi + 1 < x.lo := fun y hy => by
          subst hy
          simp only [near, decide_eq_true_eq] at hn
          omega
        refine ⟨fun z hz => ?_, List.Pairwise.cons h3' h2, fun y hy z hz => ?_⟩
        · rcases List.mem_cons.1 hz with rfl | hz
          · omega
          · exact h1 z hz
        · rcases List.mem_cons.1 hz with rfl | hz
          · exact hn' y hy
          · have := hn' y hy
            have := h3' z hz
            omega

theorem wrongFrom_of : ∀ (l : List Sp) (p : Option Sp), (∀ x ∈ l, 0 ≤ x.lo ∧ x.lo ≤ x.hi ∧ x.hi ≤ 1114111) → l.Pairwise (fun a b => a.hi + 1 < b.lo) →
    (∀ y, p = some y → ∀ x ∈ l, y.hi + 1 < x.lo) → wrongFrom p l = 0
  | [], _, _, _, _ => rfl
  | x :: r, p, h1, h2, h3 => by
    have hx := h1 x (List.mem_cons_self ..)
    have hb : spBad x = false := by simp [spBad]; omega
    have hn : near p x = false := by
      cases p with
      | none => rfl
      | some y => exact near_no (by have := h3 y rfl x (List.mem_cons_self ..); omega)
    rw [wrongFrom_next hb hn]
    rw [List.pairwise_cons] at h2
    exact wrongFrom_of r (some x) (fun z hz => h1 z (List.mem_cons_of_mem _ hz)) h2.2 (fun y hy z hz => by cases hy; exact h2.1 z hz)

theorem good_of {l : List Sp} (h : wrongSet l = 0) : Good l := by
  unfold wrongSet at h
  by_cases hb : 200 < l.length
  · rw [if_pos hb] at h; simp at h
  · rw [if_neg hb] at h
    obtain ⟨h1, h2, _⟩ := wrongFrom_zero l none h
    exact ⟨by omega, h1, h2⟩
theorem wrong_of_good {l : List Sp} (h : Good l) : wrongSet l = 0 := by
  unfold wrongSet
  have := h.len
  rw [if_neg (by omega)]
  exact wrongFrom_of l none h.rng h.pw (fun y hy => by simp at hy)

/-- what the search is for -/
def Found (p : Nat → Bool) (n i : Nat) : Prop := i ≤ n ∧ (0 < i → p (i - 1) = false) ∧ (i < n → p i = true)

theorem pw_get {l : List Sp} (h : l.Pairwise fun a b => a.hi + 1 < b.lo) {i j : Nat} {x y : Sp} (hij : i < j) (hx : l[i]? = some x) (hy : l[j]? = some y) : x.hi + 1 < y.lo := by
  obtain ⟨hi, rfl⟩ := List.getElem?_eq_some_iff.1 hx
  obtain ⟨hj, rfl⟩ := List.getElem?_eq_some_iff.1 hy
  exact List.pairwise_iff_getElem.1 h i j hi hj hij

theorem has_iff {l : List Sp} {r : Int} : has l r = true ↔ ∃ x ∈ l, x.lo ≤ r ∧ r ≤ x.hi := by
  simp [has, inSp]

theorem getD_of {α : Type} [Inhabited α] {l : List α} {i : Nat} {x : α} (h : l[i]? = some x) : l.getD i default = x := by simp [List.getD, h]
theorem get_lt {α : Type} {l : List α} {i : Nat} (h : i < l.length) : ∃ x, l[i]? = some x := ⟨l[i], List.getElem?_eq_getElem h⟩

/-- a search for a place finds the one span that may have it -/
theorem has_found {l : List Sp} (h : Good l) {r : Int} {i : Nat} (hf : Found (fun j => decide (r ≤ (l.getD j default).hi)) l.length i) :
    has l r = (decide (i < l.length) && decide ((l.getD i default).lo ≤ r)) := by
  obtain ⟨h1, h2, h3⟩ := hf
  by_cases hi : i < l.length
  · obtain ⟨x, hx⟩ := get_lt hi
    rw [getD_of hx]
    have hxr : r ≤ x.hi := by have := h3 hi; simpa only [getD_of hx, decide_eq_true_eq] using this
    simp only [hi, decide_true, Bool.true_and]
    rw [Bool.eq_iff_iff, has_iff, decide_eq_true_eq]
    constructor
    · rintro ⟨y, hy, hy1, hy2⟩
      obtain ⟨j, hj⟩ := List.getElem?_of_mem hy
      rcases Nat.lt_trichotomy j i with hji | rfl | hji
      · exfalso
        obtain ⟨z, hz⟩ := get_lt (l := l) (i := i - 1) (by omega)
        have hz2 := h2 (by omega)
        simp only [getD_of hz, decide_eq_false_iff_not] at hz2
        rcases Nat.lt_or_ge j (i - 1) with hlt | hge
        · have := pw_get h.pw hlt hj hz
          have := h.rng z (List.mem_of_getElem? hz)
          omega
        · have : j = i - 1 := by omega
          subst this
          rw [hz] at hj
          cases hj
          omega
      · rw [hx] at hj; cases hj; exact hy1
      · have := pw_get h.pw hji hx hj
        omega
    · intro hlo
      exact ⟨x, List.mem_of_getElem? hx, hlo, hxr⟩
  · simp only [hi, decide_false, Bool.false_and]
    rw [Bool.eq_false_iff]
    intro hh
    obtain ⟨y, hy, hy1, hy2⟩ := has_iff.1 hh
    obtain ⟨j, hj⟩ := List.getElem?_of_mem hy
    have hjl := lt_of_get hj
    have hil : i = l.length := by omega
    obtain ⟨z, hz⟩ := get_lt (l := l) (i := i - 1) (by omega)
    have hz2 := h2 (by omega)
    simp only [getD_of hz, decide_eq_false_iff_not] at hz2
    rcases Nat.lt_or_ge j (i - 1) with hlt | hge
    · have := pw_get h.pw hlt hj hz
      have := h.rng z (List.mem_of_getElem? hz)
      omega
    · have : j = i - 1 := by omega
      subst this
      rw [hz] at hj
      cases hj
      omega

end Go.Proofs.Ytbcmfebfcoedkaa

namespace Go.Proofs.Ytbcmfebfcoedkaa
set_option linter.unusedVariables false

/-- each set has the rune in its place -/
def zipHas : List (List Sp) → List Int → Bool
  | [], _ => true
  | _ :: _, [] => false
  | s :: r, x :: t => has s x && zipHas r t
/-- sets have the runes from a place on -/
def allAt (t : List Int) (at_ : Int) (l : List (List Sp)) : Bool := decide (0 ≤ at_) && decide (at_ + l.length ≤ t.length) && zipHas l (t.drop at_.toNat)

theorem allAt_neg {t : List Int} {a : Int} {l : List (List Sp)} (h : a < 0) : allAt t a l = false := by
  unfold allAt; rw [decide_eq_false (by omega)]; rfl
theorem allAt_far {t : List Int} {a : Int} {l : List (List Sp)} (h : (t.length : Int) - l.length < a) : allAt t a l = false := by
  unfold allAt; rw [decide_eq_false (p := a + l.length ≤ t.length) (by omega)]; simp
theorem allAt_in {t : List Int} {a : Int} {l : List (List Sp)} (h0 : 0 ≤ a) (h : a ≤ (t.length : Int) - l.length) : allAt t a l = zipHas l (t.drop a.toNat) := by
  unfold allAt; rw [decide_eq_true h0, decide_eq_true (by omega)]; rfl

/-- does a rule match at a place? -/
def here (r : Rule) (t : List Int) (at_ : Int) : Bool :=
  allAt t at_ r.source && allAt t (at_ - r.before.length) r.before && allAt t (at_ + r.source.length) r.after &&
    !(r.start && decide (at_ ≠ r.before.length)) && !(r.fin && decide (at_ + r.source.length + r.after.length ≠ t.length))

/-- place by place, as the document has it -/
def winAt (t : List Int) : Int → List (List Sp) → Bool
  | _, [] => true
  | f, s :: r => (decide (0 ≤ f) && decide (f < t.length) && has s (t.getD f.toNat 0)) && winAt t (f + 1) r
theorem winAt_neg {t : List Int} {f : Int} {s : List Sp} {r : List (List Sp)} (h : f < 0) : winAt t f (s :: r) = false := by simp [winAt]; intro h2; omega
theorem winAt_far {t : List Int} {f : Int} {s : List Sp} {r : List (List Sp)} (h : (t.length : Int) ≤ f) : winAt t f (s :: r) = false := by simp [winAt]; intro h1 h2; omega
theorem winAt_in {t : List Int} {f : Nat} {s : List Sp} {r : List (List Sp)} {x : Int} (h : t[f]? = some x) : winAt t f (s :: r) = (has s x && winAt t (f + 1 : Int) r) := by
  have hl := (List.getElem?_eq_some_iff.1 h).1
  have e : t.getD f 0 = x := by simp [List.getD, h]
  rw [winAt, Int.toNat_natCast, e, decide_eq_true (by omega), decide_eq_true (by omega)]; rfl
def refMatch (r : Rule) (t : List Int) (a : Int) : Bool :=
  winAt t (a - r.before.length) (r.before ++ r.source ++ r.after) && !(r.start && decide (0 < a - r.before.length)) &&
    !(r.fin && decide (a - r.before.length + (r.before ++ r.source ++ r.after).length < t.length))

def okSets (l : List (List Sp)) : Prop := ∀ s ∈ l, wrongSet s = 0

end Go.Proofs.Ytbcmfebfcoedkaa
