/- Plain laws of right sets. No program in sight. -/
import Derived.Test.YtfdkbhbnldcbmaaSpec
namespace Go.Proofs.Ytfdkbhbnldcbmaa
set_option linter.unusedVariables false

/-- a right set -/
structure Good (l : List Sp) : Prop where
  len : l.length ≤ 200
  rng : ∀ x ∈ l, 0 ≤ x.lo ∧ x.lo ≤ x.hi ∧ x.hi ≤ 1114111
  pw : l.Pairwise fun a b => a.hi + 1 < b.lo

theorem wrongFrom_zero : ∀ (l : List Sp) (p : Option Sp), wrongFrom p l = 0 →
    (∀ x ∈ l, 0 ≤ x.lo ∧ x.lo ≤ x.hi ∧ x.hi ≤ 1114111) ∧ l.Pairwise (fun a b => a.hi + 1 < b.lo) ∧ ∀ y, p = some y → ∀ x ∈ l, y.hi + 1 < x.lo
  | [], p, _ => ⟨fun x hx => by simp at hx, List.Pairwise.nil, fun y _ x hx => by simp at hx⟩
  | x :: r, p, h => by
    unfold wrongFrom at h
    by_cases hb : spBad x = true
    · rw [if_pos hb] at h; simp at h
    · rw [if_neg hb] at h
      by_cases hn : near p x = true
      · rw [if_pos hn] at h; simp at h
      · rw [if_neg hn] at h
        have hb' := spBad_no (by simpa using hb)
        obtain ⟨h1, h2, h3⟩ := wrongFrom_zero r (some x) h
        have h3' := h3 x rfl
        have hn' : ∀ y, p = some y → y.hi + 1 < x.lo := fun y hy => by
          subst hy
          simp only [near, decide_eq_true_eq] at hn
          omega
        refine ⟨fun z hz => ?_, List.Pairwise.cons h3' h2, fun y hy z hz => ?_⟩
        · rcases List.mem_cons.1 hz with rfl | hz
          · omega
          · exact h1 z hz
        · rcases List.mem_cons.1 hz with rfl | hz
          · exact hn' y hy
          · have := hn' y hy
            have := h3' z hz
            omega

theorem wrongFrom_of : ∀ (l : List Sp) (p : Option Sp), (∀ x ∈ l, 0 ≤ x.lo ∧ x.lo ≤ x.hi ∧ x.hi ≤ 1114111) → l.Pairwise (fun a b => a.hi + 1 < b.lo) →
    (∀ y, p = some y → ∀ x ∈ l, y.hi + 1 < x.lo) → wrongFrom p l = 0
  | [], _, _, _, _ => rfl
  | x :: r, p, h1, h2, h3 => by
    have hx := h1 x (List.mem_cons_self ..)
    have hb : spBad x = false := by simp [spBad]; omega
    have hn : near p x = false := by
      cases p with
      | none => rfl
      | some y => exact near_no (by have := h3 y rfl x (List.mem_cons_self ..); omega)
    rw [wrongFrom_next hb hn]
    rw [List.pairwise_cons] at h2
    exact wrongFrom_of r (some x) (fun z hz => h1 z (List.mem_cons_of_mem _ hz)) h2.2 (fun y hy z hz => by cases hy; exact h2.1 z hz)

theorem good_of {l : List Sp} (h : wrongSet l = 0) : Good l := by
  unfold wrongSet at h
  by_cases hb : 200 < l.length
  · rw [if_pos hb] at h; simp at h
  · rw [if_neg hb] at h
    obtain ⟨h1, h2, _⟩ := wrongFrom_zero l none h
    exact ⟨by omega, h1, h2⟩
theorem wrong_of_good {l : List Sp} (h : Good l) : wrongSet l = 0 := by
  unfold wrongSet
  have := h.len
  rw [if_neg (by omega)]
  exact wrongFrom_of l none h.rng h.pw (fun y hy => by simp at hy)

/-- what the search is for -/
def Found (p : Nat → Bool) (n i : Nat) : Prop := i ≤ n ∧ (0 < i → p (i - 1) = false) ∧ (i < n → p i = true)

theorem pw_get {l : List Sp} (h : l.Pairwise fun a b => a.hi + 1 < b.lo) {i j : Nat} {x y : Sp} (hij : i < j) (hx : l[i]? = some x) (hy : l[j]? = some y) : x.hi + 1 < y.lo := by
  obtain ⟨hi, rfl⟩ := List.getElem?_eq_some_iff.1 hx
  obtain ⟨hj, rfl⟩ := List.getElem?_eq_some_iff.1 hy
  exact List.pairwise_iff_getElem.1 h i j hi hj hij

theorem has_iff {l : List Sp} {r : Int} : has l r = true ↔ ∃ x ∈ l, x.lo ≤ r ∧ r ≤ x.hi := by
  simp [has, inSp]

theorem getD_of {α : Type} [Inhabited α] {l : List α} {i : Nat} {x : α} (h : l[i]? = some x) : l.getD i default = x := by simp [List.getD, h]
theorem get_lt {α : Type} {l : List α} {i : Nat} (h : i < l.length) : ∃ x, l[i]? = some x := ⟨l[i], List.getElem?_eq_getElem h⟩

/-- a search for a place finds the one span that may have it -/
theorem has_found {l : List Sp} (h : Good l) {r : Int} {i : Nat} (hf : Found (fun j => decide (r ≤ (l.getD j default).hi)) l.length i) :
    has l r = (decide (i < l.length) && decide ((l.getD i default).lo ≤ r)) := by
  obtain ⟨h1, h2, h3⟩ := hf
  by_cases hi : i < l.length
  · obtain ⟨x, hx⟩ := get_lt hi
    rw [getD_of hx]
    have hxr : r ≤ x.hi := by have := h3 hi; simpa only [getD_of hx, decide_eq_true_eq] using this
    simp only [hi, decide_true, Bool.true_and]
    rw [Bool.eq_iff_iff, has_iff, decide_eq_true_eq]
    constructor
    · rintro ⟨y, hy, hy1, hy2⟩
      obtain ⟨j, hj⟩ := List.getElem?_of_mem hy
      rcases Nat.lt_trichotomy j i with hji | rfl | hji
      · exfalso
        obtain ⟨z, hz⟩ := get_lt (l := l) (i := i - 1) (by omega)
        have hz2 := h2 (by omega)
        simp only [getD_of hz, decide_eq_false_iff_not] at hz2
        rcases Nat.lt_or_ge j (i - 1) with hlt | hge
        · have := pw_get h.pw hlt hj hz
          have := h.rng z (List.mem_of_getElem? hz)
          omega
        · have : j = i - 1 := by omega
          subst this
          rw [hz] at hj
          cases hj
          omega
      · rw [hx] at hj; cases hj; exact hy1
      · have := pw_get h.pw hji hx hj
        omega
    · intro hlo
      exact ⟨x, List.mem_of_getElem? hx, hlo, hxr⟩
  · simp only [hi, decide_false, Bool.false_and]
    rw [Bool.eq_false_iff]
    intro hh
    obtain ⟨y, hy, hy1, hy2⟩ := has_iff.1 hh
    obtain ⟨j, hj⟩ := List.getElem?_of_mem hy
    have hjl := lt_of_get hj
    have hil : i = l.length := by omega
    obtain ⟨z, hz⟩ := get_lt (l := l) (i := i - 1) (by omega)
    have hz2 := h2 (by omega)
    simp only [getD_of hz, decide_eq_false_iff_not] at hz2
    rcases Nat.lt_or_ge j (i - 1) with hlt | hge
    · have := pw_get h.pw hlt hj hz
      have := h.rng z (List.mem_of_getElem? hz)
      omega
    · have : j = i - 1 := by omega
      subst this
      rw [hz] at hj
      cases hj
      omega

end Go.Proofs.Ytfdkbhbnldcbmaa
