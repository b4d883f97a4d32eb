/- Plain laws of matching. -/
import Derived.Test.YtfdkbhbnldcbmaaRule
namespace Go.Proofs.Ytfdkbhbnldcbmaa
open Go.RowKit
set_option linter.unusedVariables false
set_option linter.unusedSimpArgs false

theorem zipHas_append : ∀ (a b : List (List Sp)) (t : List Int), zipHas (a ++ b) t = (zipHas a t && zipHas b (t.drop a.length))
  | [], b, t => by simp [zipHas]
  | s :: a, b, [] => by cases b <;> simp [zipHas]
  | s :: a, b, x :: t => by simp [zipHas, zipHas_append a b t, Bool.and_assoc]
theorem zipHas_len : ∀ (l : List (List Sp)) (t : List Int), zipHas l t = true → l.length ≤ t.length
  | [], t, _ => by simp
  | s :: l, [], h => by simp [zipHas] at h
  | s :: l, x :: t, h => by
    simp only [zipHas, Bool.and_eq_true] at h
    have := zipHas_len l t h.2
    simp; omega
theorem winAt_nat (t : List Int) : ∀ (l : List (List Sp)) (f : Nat), winAt t f l = zipHas l (t.drop f)
  | [], f => by simp [winAt, zipHas]
  | s :: r, f => by
    by_cases hf : f < t.length
    · have hx : t[f]? = some t[f] := List.getElem?_eq_getElem hf
      rw [winAt_in hx, drop_cons hx]
      have := winAt_nat t r (f + 1)
      rw [show ((f : Int) + 1) = ((f + 1 : Nat) : Int) by omega, this]
      rfl
    · rw [winAt_far (by omega), List.drop_of_length_le (by omega)]; rfl
theorem allAt_nat {t : List Int} {f : Nat} (l : List (List Sp)) (hf : f ≤ t.length) : allAt t f l = zipHas l (t.drop f) := by
  unfold allAt
  rw [decide_eq_true (by omega), Int.toNat_natCast]
  cases hz : zipHas l (t.drop f)
  · simp
  · have := zipHas_len _ _ hz
    simp at this
    simp; omega

theorem ref_here {r : Rule} {t : List Int} {a : Nat} (hs : 0 < r.source.length) (ha : a ≤ t.length) : refMatch r t a = here r t a := by
  unfold refMatch here
  by_cases hb : r.before.length ≤ a
  · obtain ⟨f, rfl⟩ : ∃ f, a = f + r.before.length := ⟨a - r.before.length, by omega⟩
    have e1 : ((f + r.before.length : Nat) : Int) - r.before.length = (f : Int) := by omega
    rw [e1, winAt_nat, zipHas_append, zipHas_append, List.drop_drop, List.drop_drop, allAt_nat _ ha, allAt_nat _ (by omega)]
    rw [show ((f + r.before.length : Nat) : Int) + r.source.length = ((f + r.before.length + r.source.length : Nat) : Int) by omega]
    have e2 : f + (r.before ++ r.source).length = f + r.before.length + r.source.length := by simp; omega
    rw [e2]
    cases h1 : zipHas r.before (t.drop f)
    · simp
    cases h2 : zipHas r.source (t.drop (f + r.before.length))
    · simp
    have hl := zipHas_len _ _ h2
    simp only [List.length_drop] at hl
    rw [allAt_nat _ (by omega)]
    cases h3 : zipHas r.after (t.drop (f + r.before.length + r.source.length))
    · simp
    have hl3 := zipHas_len _ _ h3
    simp only [List.length_drop] at hl3
    simp only [Bool.true_and]
    congr 1
    · congr 2
      rw [decide_eq_decide]
      omega
    · congr 2
      rw [decide_eq_decide]
      simp only [List.length_append]
      omega
  · have hn : (a : Int) - r.before.length < 0 := by omega
    have hne : r.before ++ r.source ++ r.after = (r.before ++ r.source ++ r.after).headD [] :: (r.before ++ r.source ++ r.after).tail := by
      cases h : r.before ++ r.source ++ r.after with
      | nil => simp at h; rw [h.2.1] at hs; simp at hs
      | cons x y => rfl
    rw [hne, winAt_neg hn, allAt_neg (l := r.before) hn]
    simp

end Go.Proofs.Ytfdkbhbnldcbmaa
