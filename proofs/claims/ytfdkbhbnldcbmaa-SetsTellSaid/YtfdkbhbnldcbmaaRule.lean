/- Plain laws of right rules and texts. No program in sight. -/
import Derived.Test.YtfdkbhbnldcbmaaW7
import Derived.Test.YtfdkbhbnldcbmaaCut
namespace Go.Proofs.Ytfdkbhbnldcbmaa
open Go.RowKit
set_option linter.unusedVariables false

theorem wrongSets_zero : ∀ {l : List (List Sp)}, wrongSets l = 0 → okSets l
  | [], _ => fun s hs => by simp at hs
  | s :: r, h => by
    unfold wrongSets at h
    by_cases hs : wrongSet s = 0
    · rw [if_neg (by simp [hs])] at h
      intro x hx
      rcases List.mem_cons.1 hx with rfl | hx
      · exact hs
      · exact wrongSets_zero h x hx
    · rw [if_pos hs] at h; exact absurd h hs
theorem wrongSets_of : ∀ {l : List (List Sp)}, okSets l → wrongSets l = 0
  | [], _ => rfl
  | s :: r, h => by
    rw [wrongSets_ok (h s (List.mem_cons_self ..))]
    exact wrongSets_of fun x hx => h x (List.mem_cons_of_mem _ hx)
theorem wrongSide_zero {l : List (List Sp)} (h : wrongSide l = 0) : l.length ≤ 20 ∧ okSets l := by
  unfold wrongSide at h
  by_cases hb : 20 < l.length
  · rw [if_pos hb] at h; simp at h
  · rw [if_neg hb] at h; exact ⟨by omega, wrongSets_zero h⟩
theorem wrongSide_of {l : List (List Sp)} (hl : l.length ≤ 20) (h : okSets l) : wrongSide l = 0 := by
  unfold wrongSide
  rw [if_neg (by omega)]; exact wrongSets_of h
theorem wrongSides_zero : ∀ {l : List (List (List Sp))}, wrongSides l = 0 → ∀ s ∈ l, wrongSide s = 0
  | [], _ => fun s hs => by simp at hs
  | s :: r, h => by
    unfold wrongSides at h
    by_cases hs : wrongSide s = 0
    · rw [if_neg (by simp [hs])] at h
      intro x hx
      rcases List.mem_cons.1 hx with rfl | hx
      · exact hs
      · exact wrongSides_zero h x hx
    · rw [if_pos hs] at h; exact absurd h hs

theorem ok_of {r : Rule} (h : wrongRule r = 0) : OkRule r := by
  have hs : wrongSides [r.before, r.source, r.after] = 0 := by
    by_cases hs : wrongSides [r.before, r.source, r.after] = 0
    · exact hs
    · rw [wrongRule_sides hs] at h; exact h
  have hz := wrongSides_zero hs
  obtain ⟨h1, h2⟩ := wrongSide_zero (hz r.before (by simp))
  obtain ⟨h3, h4⟩ := wrongSide_zero (hz r.source (by simp))
  obtain ⟨h5, h6⟩ := wrongSide_zero (hz r.after (by simp))
  rw [wrongRule_rest hs] at h
  unfold wrongRest at h
  by_cases c1 : r.source.length = 0
  · rw [if_pos c1] at h; simp at h
  rw [if_neg c1] at h
  by_cases c2 : 20 < r.target.length
  · rw [if_pos c2] at h; simp at h
  rw [if_neg c2] at h
  cases c3 : r.target.all right
  · rw [c3] at h; simp at h
  rw [c3] at h
  simp only [Bool.not_true, Bool.false_eq_true, if_false] at h
  by_cases c4 : r.cursor < 0 ∨ (r.target.length : Int) < r.cursor
  · rw [if_pos c4] at h; simp at h
  exact ⟨h2, h4, h6, h1, h3, h5, by omega, by omega, c3, by omega, by omega⟩
theorem wrong_of_ok {r : Rule} (h : OkRule r) : wrongRule r = 0 := by
  have hs : wrongSides [r.before, r.source, r.after] = 0 := by
    rw [wrongSides_ok (wrongSide_of h.lb h.b), wrongSides_ok (wrongSide_of h.ls h.s), wrongSides_ok (wrongSide_of h.la h.a)]; rfl
  rw [wrongRule_rest hs]
  unfold wrongRest
  have h1 := h.s0
  have h2 := h.lt
  have h3 := h.c0
  have h4 := h.c1
  rw [if_neg (by omega), if_neg (by omega), h.tr, if_neg (by simp), if_neg (by omega)]

theorem text_of {t : List Int} (h : wrongText t = 0) : t.length ≤ 4000 ∧ t.all right = true := by
  unfold wrongText at h
  by_cases c1 : 4000 < t.length
  · rw [if_pos c1] at h; simp at h
  rw [if_neg c1] at h
  cases c2 : t.all right
  · rw [c2] at h; simp at h
  · exact ⟨by omega, rfl⟩
theorem wrongText_of {t : List Int} (h1 : t.length ≤ 4000) (h2 : t.all right = true) : wrongText t = 0 := by
  unfold wrongText
  rw [if_neg (by omega), h2]; rfl

/-- the cells of a boxed rule -/
theorem RuleAt.box {w : World} {b : Nat} {s f : Bool} {A1 : Option Addr} {n1 c1 : Nat} {A2 : Option Addr} {n2 c2 : Nat} {A3 : Option Addr} {n3 c3 : Nat} {A4 : Option Addr} {n4 c4 : Nat} {q : Int} (h : RuleAt w b 0 s f A1 n1 c1 A2 n2 c2 A3 n3 c3 A4 n4 c4 q) :
    w.cell? ⟨b, 0, none⟩ = some (.bool s) ∧ w.cell? ⟨b, 1, none⟩ = some (.bool f) ∧ w.cell? ⟨b, 2, none⟩ = some (.slice A1 n1 c1) ∧ w.cell? ⟨b, 3, none⟩ = some (.slice A2 n2 c2) ∧
      w.cell? ⟨b, 4, none⟩ = some (.slice A3 n3 c3) ∧ w.cell? ⟨b, 5, none⟩ = some (.slice A4 n4 c4) ∧ w.cell? ⟨b, 6, none⟩ = some (.int .i64 q) :=
  ⟨h.h0, h.h1, h.h2, h.h3, h.h4, h.h5, h.h6⟩

/-- what Matches tells -/
def matchesErr (r : Rule) (t : List Int) (at_ : Int) : Int :=
  if wrongRule r ≠ 0 then wrongRule r else if wrongText t ≠ 0 then wrongText t else if at_ < 0 ∨ (t.length : Int) < at_ then 3 else 0
def matchesOk (r : Rule) (t : List Int) (at_ : Int) : Bool := decide (matchesErr r t at_ = 0) && here r t at_

/-- a text with a target in its source's place -/
def putAt (r : Rule) (t : List Int) (a : Nat) : List Int := t.take a ++ r.target ++ t.drop (a + r.source.length)

theorem results_tmp4 {fn : Func} {t u v x : Tmp} (h : fn.results = #[.tmp t, .tmp u, .tmp v, .tmp x]) (tmps : Array Value) (P : Program) (w : World) :
    (results fn tmps).run P w = .ok (.tuple #[tmps.getD t undef, tmps.getD u undef, tmps.getD v undef, tmps.getD x undef]) w := by simp [results, h]

end Go.Proofs.Ytfdkbhbnldcbmaa
