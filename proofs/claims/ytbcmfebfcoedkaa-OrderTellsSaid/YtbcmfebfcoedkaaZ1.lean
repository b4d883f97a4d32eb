/- Plain: sorting in place that keeps the order of what is alike. No program in sight. -/
import Derived.Test.YtbcmfebfcoedkaaMem
namespace Go.Proofs.Ytbcmfebfcoedkaa
set_option linter.unusedVariables false
set_option linter.unusedSimpArgs false

structure Ord (lt : Int → Int → Bool) : Prop where
  as : ∀ x y, lt x y = true → lt y x = false
  nt : ∀ x y z, lt y x = false → lt z y = false → lt z x = false
theorem Ord.irr {lt : Int → Int → Bool} (o : Ord lt) (x : Int) : lt x x = false := by
  cases h : lt x x
  · rfl
  · have := o.as x x h; rw [h] at this; cases this

def Srt (lt : Int → Int → Bool) (l : List Int) : Prop := l.Pairwise fun x y => lt y x = false
def eqv (lt : Int → Int → Bool) (x y : Int) : Bool := !lt x y && !lt y x
def StEq (lt : Int → Int → Bool) (l r : List Int) : Prop := ∀ x, l.filter (eqv lt x) = r.filter (eqv lt x)

section
variable {lt : Int → Int → Bool}
theorem eqv_iff {x y : Int} : eqv lt x y = true ↔ lt x y = false ∧ lt y x = false := by unfold eqv; simp
theorem StEq.refl (l : List Int) : StEq lt l l := fun _ => rfl
theorem StEq.symm {l r : List Int} (h : StEq lt l r) : StEq lt r l := fun x => (h x).symm
theorem StEq.trans {l r s : List Int} (h : StEq lt l r) (k : StEq lt r s) : StEq lt l s := fun x => (h x).trans (k x)
theorem StEq.app {l r l' r' : List Int} (h : StEq lt l r) (k : StEq lt l' r') : StEq lt (l ++ l') (r ++ r') := fun x => by rw [List.filter_append, List.filter_append, h x, k x]
theorem StEq.mem (o : Ord lt) {l r : List Int} (h : StEq lt l r) {x : Int} (hx : x ∈ l) : x ∈ r := by
  have h1 : x ∈ l.filter (eqv lt x) := List.mem_filter.2 ⟨hx, eqv_iff.2 ⟨o.irr x, o.irr x⟩⟩
  rw [h x] at h1
  exact (List.mem_filter.1 h1).1
theorem StEq.len (o : Ord lt) : ∀ {l r : List Int}, StEq lt l r → l.length = r.length
  | [], [], _ => rfl
  | [], y :: r, h => by have := h.symm.mem o (x := y) (by simp); simp at this
  | x :: l, r, h => by
    have hx := h.mem o (x := x) (by simp)
    -- the first of r that is alike to x is x
    have hf := h x
    have e1 : (x :: l).filter (eqv lt x) = x :: l.filter (eqv lt x) := by rw [List.filter_cons, if_pos (eqv_iff.2 ⟨o.irr x, o.irr x⟩)]
    rw [e1] at hf
    obtain ⟨p, s, e, hp, hs⟩ : ∃ p s, r = p ++ x :: s ∧ (∀ y ∈ p, eqv lt x y = false) ∧ l.filter (eqv lt x) = s.filter (eqv lt x) := by
      clear h hx e1
      induction r with
      | nil => simp at hf
      | cons y r ih =>
        cases hy : eqv lt x y
        · rw [List.filter_cons, if_neg (by rw [hy]; simp)] at hf
          obtain ⟨p, s, e, hp, hs⟩ := ih hf
          exact ⟨y :: p, s, by rw [e]; rfl, fun z hz => by rcases List.mem_cons.1 hz with rfl | hz; exact hy; exact hp z hz, hs⟩
        · rw [List.filter_cons, if_pos hy] at hf
          injection hf with a1 a2
          subst a1
          exact ⟨[], r, rfl, by simp, a2⟩
    have h2 : StEq lt l (p ++ s) := fun z => by
      have hz := h z
      rw [e, List.filter_append, List.filter_cons, List.filter_cons] at hz
      rw [List.filter_append]
      cases hzx : eqv lt z x
      · rw [hzx] at hz; simpa using hz
      · rw [hzx] at hz
        have hpz : p.filter (eqv lt z) = [] := by
          rw [List.filter_eq_nil_iff]
          intro y hy hzy
          have h3 := hp y hy
          have k1 := eqv_iff.1 hzx; have k2 := eqv_iff.1 hzy
          rw [eqv_iff.2 ⟨o.nt y z x k2.1 k1.2 |> fun h => by simpa using h, o.nt x z y k1.1 k2.2⟩] at h3
          cases h3
        rw [hpz] at hz ⊢
        simpa using hz
    have := StEq.len o h2
    rw [e]; simp at this ⊢; omega
termination_by l => l.length

/-- what is more ahead of what is less: they may change their places -/
theorem StEq.swap (o : Ord lt) {a b : List Int} (h : ∀ x ∈ a, ∀ y ∈ b, lt y x = true) : StEq lt (a ++ b) (b ++ a) := fun z => by
  rw [List.filter_append, List.filter_append]
  by_cases ha : a.filter (eqv lt z) = []
  · rw [ha]; simp
  · obtain ⟨x, hx⟩ := List.exists_mem_of_ne_nil _ ha
    obtain ⟨hx1, hx2⟩ := List.mem_filter.1 hx
    have hb : b.filter (eqv lt z) = [] := by
      rw [List.filter_eq_nil_iff]
      intro y hy hzy
      have k1 := eqv_iff.1 hx2; have k2 := eqv_iff.1 hzy
      have := o.nt x z y k1.1 k2.2
      rw [h x hx1 y hy] at this
      cases this
    rw [hb]; simp

theorem Srt.app {a b : List Int} (ha : Srt lt a) (hb : Srt lt b) (h : ∀ x ∈ a, ∀ y ∈ b, lt y x = false) : Srt lt (a ++ b) := List.pairwise_append.2 ⟨ha, hb, h⟩
theorem Srt.left {a b : List Int} (h : Srt lt (a ++ b)) : Srt lt a := (List.pairwise_append.1 h).1
theorem Srt.right {a b : List Int} (h : Srt lt (a ++ b)) : Srt lt b := (List.pairwise_append.1 h).2.1
theorem Srt.cross {a b : List Int} (h : Srt lt (a ++ b)) : ∀ x ∈ a, ∀ y ∈ b, lt y x = false := (List.pairwise_append.1 h).2.2

/-- one list alone is sorted and keeps the order of what is alike -/
theorem srt_uniq (o : Ord lt) : ∀ {r s : List Int}, Srt lt r → Srt lt s → StEq lt r s → r = s
  | [], s, _, _, h => (List.eq_nil_of_length_eq_zero (h.len o).symm).symm
  | x :: r, [], _, _, h => by have := h.len o; simp at this
  | x :: r, y :: s, hr, hs, h => by
    have hx := h.mem o (x := x) (by simp)
    have hy := h.symm.mem o (x := y) (by simp)
    have h1 : lt y x = false := by
      rcases List.mem_cons.1 hy with e | hy
      · rw [e]; exact o.irr x
      · exact (List.pairwise_cons.1 hr).1 y hy
    have h2 : lt x y = false := by
      rcases List.mem_cons.1 hx with e | hx
      · rw [e]; exact o.irr y
      · exact (List.pairwise_cons.1 hs).1 x hx
    have hf := h x
    rw [List.filter_cons, if_pos (eqv_iff.2 ⟨o.irr x, o.irr x⟩), List.filter_cons, if_pos (eqv_iff.2 ⟨h2, h1⟩)] at hf
    injection hf with e1 e2
    subst e1
    have h3 : StEq lt r s := fun z => by
      have hz := h z
      rw [List.filter_cons, List.filter_cons] at hz
      cases hzx : eqv lt z x
      · rw [hzx] at hz; simpa using hz
      · rw [hzx] at hz; simpa using hz
    rw [srt_uniq o (List.pairwise_cons.1 hr).2 (List.pairwise_cons.1 hs).2 h3]

/-- put behind those that are not more -/
def insA (lt : Int → Int → Bool) (l : List Int) (x : Int) : List Int := l.takeWhile (fun y => !lt x y) ++ x :: l.dropWhile fun y => !lt x y
theorem insA_split (o : Ord lt) {a b : List Int} {x : Int} (ha : ∀ y ∈ a, lt x y = false) (hb : ∀ y ∈ b, lt x y = true) : insA lt (a ++ b) x = a ++ x :: b := by
  unfold insA
  have e : ∀ l : List Int, (∀ y ∈ l, lt x y = false) → ∀ r, (l ++ r).takeWhile (fun y => !lt x y) = l ++ r.takeWhile (fun y => !lt x y) ∧ (l ++ r).dropWhile (fun y => !lt x y) = r.dropWhile fun y => !lt x y := by
    intro l hl r
    induction l with
    | nil => simp
    | cons y l ih =>
      have h1 := hl y (by simp)
      have h2 := ih (fun z hz => hl z (by simp [hz]))
      simp [h1, h2.1, h2.2]
  rw [(e a ha b).1, (e a ha b).2]
  cases b with
  | nil => simp
  | cons z b => simp [hb z (by simp)]
theorem srt_split (o : Ord lt) (x : Int) : ∀ {l : List Int}, Srt lt l → ∃ a b, l = a ++ b ∧ (∀ y ∈ a, lt x y = false) ∧ (∀ y ∈ b, lt x y = true)
  | [], _ => ⟨[], [], rfl, by simp, by simp⟩
  | y :: l, h => by
    obtain ⟨h1, h2⟩ := List.pairwise_cons.1 h
    cases hy : lt x y
    · obtain ⟨a, b, e, ha, hb⟩ := srt_split o x h2
      exact ⟨y :: a, b, by rw [e]; rfl, fun z hz => by rcases List.mem_cons.1 hz with rfl | hz; exact hy; exact ha z hz, hb⟩
    · refine ⟨[], y :: l, rfl, by simp, fun z hz => ?_⟩
      rcases List.mem_cons.1 hz with rfl | hz
      · exact hy
      · cases hxz : lt x z
        · have := o.nt y z x (h1 z hz) hxz; rw [hy] at this; cases this
        · rfl
theorem srt_ins (o : Ord lt) {a b : List Int} {x : Int} (h : Srt lt (a ++ b)) (ha : ∀ y ∈ a, lt x y = false) (hb : ∀ y ∈ b, lt x y = true) : Srt lt (a ++ x :: b) := by
  refine Srt.app h.left (List.pairwise_cons.2 ⟨fun y hy => o.as x y (hb y hy), h.right⟩) fun z hz y hy => ?_
  rcases List.mem_cons.1 hy with rfl | hy
  · exact ha z hz
  · exact h.cross z hz y hy
theorem st_ins (o : Ord lt) {a b : List Int} {x : Int} (hb : ∀ y ∈ b, lt x y = true) : StEq lt (a ++ b ++ [x]) (a ++ x :: b) := by
  rw [List.append_assoc]
  exact (StEq.refl a).app (StEq.swap o (a := b) (b := [x]) (fun y hy z hz => by simp at hz; subst hz; exact hb y hy))
def isort (lt : Int → Int → Bool) (l : List Int) : List Int := l.foldl (insA lt) []
theorem isort_snoc (l : List Int) (x : Int) : isort lt (l ++ [x]) = insA lt (isort lt l) x := by unfold isort; rw [List.foldl_append]; rfl
theorem isort_both (o : Ord lt) (l : List Int) : Srt lt (isort lt l) ∧ StEq lt l (isort lt l) := by
  induction hn : l.length generalizing l with
  | zero => rw [List.eq_nil_of_length_eq_zero hn]; exact ⟨List.Pairwise.nil, StEq.refl _⟩
  | succ n ih =>
    have hne : l ≠ [] := fun e => by rw [e] at hn; simp at hn
    rw [← List.dropLast_concat_getLast hne]
    generalize l.getLast hne = x
    have hl : l.dropLast.length = n := by rw [List.length_dropLast]; omega
    obtain ⟨h1, h2⟩ := ih l.dropLast hl
    generalize l.dropLast = l at *
    obtain ⟨a, b, e, ha, hb⟩ := srt_split o x h1
    rw [isort_snoc, e, insA_split o ha hb]
    rw [e] at h1 h2
    exact ⟨srt_ins o h1 ha hb, (h2.app (StEq.refl [x])).trans (st_ins o hb)⟩
/-- whatever is sorted and keeps the order of what is alike is the list's sorting -/
theorem isort_of (o : Ord lt) {l r : List Int} (hr : Srt lt r) (h : StEq lt l r) : r = isort lt l := srt_uniq o hr (isort_both o l).1 (h.symm.trans (isort_both o l).2)
theorem isort_len (o : Ord lt) (l : List Int) : (isort lt l).length = l.length := ((isort_both o l).2.len o).symm
theorem isort_srt (o : Ord lt) {l : List Int} (h : Srt lt l) : isort lt l = l := (isort_of o h (StEq.refl l)).symm
theorem isort_app (o : Ord lt) (a b : List Int) : isort lt (isort lt a ++ isort lt b) = isort lt (a ++ b) :=
  isort_of o (isort_both o _).1 (((isort_both o a).2.app (isort_both o b).2).trans (isort_both o _).2)
end

end Go.Proofs.Ytbcmfebfcoedkaa
