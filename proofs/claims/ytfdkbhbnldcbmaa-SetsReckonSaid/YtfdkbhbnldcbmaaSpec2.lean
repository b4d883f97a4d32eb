/- Plain functions: matching and playing. -/
import Derived.Test.YtfdkbhbnldcbmaaSets
namespace Go.Proofs.Ytfdkbhbnldcbmaa
set_option linter.unusedVariables false

/-- each set has the rune in its place -/
def zipHas : List (List Sp) → List Int → Bool
  | [], _ => true
  | _ :: _, [] => false
  | s :: r, x :: t => has s x && zipHas r t
/-- sets have the runes from a place on -/
def allAt (t : List Int) (at_ : Int) (l : List (List Sp)) : Bool := decide (0 ≤ at_) && decide (at_ + l.length ≤ t.length) && zipHas l (t.drop at_.toNat)

theorem allAt_neg {t : List Int} {a : Int} {l : List (List Sp)} (h : a < 0) : allAt t a l = false := by
  unfold allAt; rw [decide_eq_false (by omega)]; rfl
theorem allAt_far {t : List Int} {a : Int} {l : List (List Sp)} (h : (t.length : Int) - l.length < a) : allAt t a l = false := by
  unfold allAt; rw [decide_eq_false (p := a + l.length ≤ t.length) (by omega)]; simp
theorem allAt_in {t : List Int} {a : Int} {l : List (List Sp)} (h0 : 0 ≤ a) (h : a ≤ (t.length : Int) - l.length) : allAt t a l = zipHas l (t.drop a.toNat) := by
  unfold allAt; rw [decide_eq_true h0, decide_eq_true (by omega)]; rfl

/-- does a rule match at a place? -/
def here (r : Rule) (t : List Int) (at_ : Int) : Bool :=
  allAt t at_ r.source && allAt t (at_ - r.before.length) r.before && allAt t (at_ + r.source.length) r.after &&
    !(r.start && decide (at_ ≠ r.before.length)) && !(r.fin && decide (at_ + r.source.length + r.after.length ≠ t.length))

/-- place by place, as the document has it -/
def winAt (t : List Int) : Int → List (List Sp) → Bool
  | _, [] => true
  | f, s :: r => (decide (0 ≤ f) && decide (f < t.length) && has s (t.getD f.toNat 0)) && winAt t (f + 1) r
theorem winAt_neg {t : List Int} {f : Int} {s : List Sp} {r : List (List Sp)} (h : f < 0) : winAt t f (s :: r) = false := by simp [winAt]; intro h2; omega
theorem winAt_far {t : List Int} {f : Int} {s : List Sp} {r : List (List Sp)} (h : (t.length : Int) ≤ f) : winAt t f (s :: r) = false := by simp [winAt]; intro h1 h2; omega
theorem winAt_in {t : List Int} {f : Nat} {s : List Sp} {r : List (List Sp)} {x : Int} (h : t[f]? = some x) : winAt t f (s :: r) = (has s x && winAt t (f + 1 : Int) r) := by
  have hl := (List.getElem?_eq_some_iff.1 h).1
  have e : t.getD f 0 = x := by simp [List.getD, h]
  rw [winAt, Int.toNat_natCast, e, decide_eq_true (by omega), decide_eq_true (by omega)]; rfl
def refMatch (r : Rule) (t : List Int) (a : Int) : Bool :=
  winAt t (a - r.before.length) (r.before ++ r.source ++ r.after) && !(r.start && decide (0 < a - r.before.length)) &&
    !(r.fin && decide (a - r.before.length + (r.before ++ r.source ++ r.after).length < t.length))

def okSets (l : List (List Sp)) : Prop := ∀ s ∈ l, wrongSet s = 0

end Go.Proofs.Ytfdkbhbnldcbmaa
