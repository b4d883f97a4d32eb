/- Plain: what Feed and Wait compute of pieces. No program in sight. -/
import Derived.Test.YtfdkbhbnldcbmaaPlay
import Derived.Test.YtfdkbhbnldcbmaaPl9
namespace Go.Proofs.Ytfdkbhbnldcbmaa
open Go.RowKit
set_option linter.unusedVariables false
set_option linter.unusedSimpArgs false

/-- on, as far as may be: so many steps may still be taken -/
def goOn (l : List Rule) (ah : Nat) (fin : Bool) : Nat → Play → Play × Int
  | n, p => if p.at_ < p.text.length ∧ (fin = true ∨ p.at_ + ah < p.text.length) then
      match n with
      | 0 => (p, if fin then 9 else 0)
      | n + 1 => match playStep l p with
        | none => (p, 4)
        | some q => goOn l ah fin n q
    else (p, 0)
theorem goOn_end {l : List Rule} {ah n : Nat} {fin : Bool} {p : Play} (h : ¬ (p.at_ < p.text.length ∧ (fin = true ∨ p.at_ + ah < p.text.length))) : goOn l ah fin n p = (p, 0) := by
  unfold goOn; rw [if_neg h]
theorem goOn_out {l : List Rule} {ah : Nat} {fin : Bool} {p : Play} (h : p.at_ < p.text.length ∧ (fin = true ∨ p.at_ + ah < p.text.length)) : goOn l ah fin 0 p = (p, if fin then 9 else 0) := by
  unfold goOn; rw [if_pos h]
theorem goOn_none {l : List Rule} {ah n : Nat} {fin : Bool} {p : Play} (h : p.at_ < p.text.length ∧ (fin = true ∨ p.at_ + ah < p.text.length)) (hs : playStep l p = none) : goOn l ah fin (n + 1) p = (p, 4) := by
  rw [goOn, if_pos h]; simp only [hs]
theorem goOn_next {l : List Rule} {ah n : Nat} {fin : Bool} {p q : Play} (h : p.at_ < p.text.length ∧ (fin = true ∨ p.at_ + ah < p.text.length)) (hs : playStep l p = some q) : goOn l ah fin (n + 1) p = goOn l ah fin n q := by
  rw [goOn, if_pos h]; simp only [hs]
/-- one that stops has nothing that is wrong -/
theorem goOn_stop {l : List Rule} {ah n : Nat} {p : Play} (h : ¬ (p.at_ + ah < p.text.length) ∨ n = 0) : goOn l ah false n p = (p, 0) := by
  by_cases hc : p.at_ < p.text.length ∧ (false = true ∨ p.at_ + ah < p.text.length)
  · rcases h with h | rfl
    · simp at hc; omega
    · rw [goOn_out hc]; rfl
  · rw [goOn_end hc]

/-- what holds of a play that goes on -/
structure PlayOk (L : Nat) (p : Play) : Prop where
  at_ : p.at_ ≤ p.text.length
  len : p.text.length ≤ 4000
  steps : p.steps ≤ L

theorem playStep_inv {l : List Rule} (hok : ∀ r ∈ l, OkRule r) {L : Nat} {p q : Play} (h : PlayOk L p) (hs : playStep l p = some q) (hlt : p.at_ < p.text.length) : PlayOk (L + 1) q ∧ p.at_ ≤ q.at_ ∧ q.steps = p.steps + 1 := by
  obtain ⟨t, a, s, u⟩ := p
  have h1 := h.at_; have h2 := h.len; have h3 := h.steps
  simp only at h1 h2 h3 hlt
  by_cases hk : first l t a < 0
  · rw [playStep_no hk] at hs
    cases hs
    exact ⟨⟨by simp; omega, h2, by simp; omega⟩, by simp, rfl⟩
  · obtain ⟨i, r, hir, hhere, hfi⟩ := first_mem (by omega : 0 ≤ first l t a)
    have hroom := here_room hhere
    have hr := hok r (List.mem_of_getElem? hir)
    by_cases hb : 4000 < (t.length : Int) - r.source.length + r.target.length
    · rw [playStep_much hfi hir hb] at hs; cases hs
    · rw [playStep_put hfi hir hb] at hs
      cases hs
      have hl := putAt_len (r := r) (t := t) (a := a) hroom
      have hc0 := hr.c0; have hc1 := hr.c1
      exact ⟨⟨by simp only; omega, by simp only; omega, by simp only; omega⟩, by simp, rfl⟩
theorem goOn_inv {l : List Rule} (hok : ∀ r ∈ l, OkRule r) {ah : Nat} {fin : Bool} : ∀ {n : Nat} {L : Nat} {p : Play}, PlayOk L p → PlayOk (L + n) (goOn l ah fin n p).1 ∧ p.at_ ≤ (goOn l ah fin n p).1.at_
  | n, L, p, h => by
    by_cases hc : p.at_ < p.text.length ∧ (fin = true ∨ p.at_ + ah < p.text.length)
    · match n with
      | 0 => rw [goOn_out hc]; exact ⟨h, Nat.le_refl _⟩
      | n + 1 =>
        cases hs : playStep l p with
        | none => rw [goOn_none hc hs]; exact ⟨⟨h.at_, h.len, Nat.le_trans h.steps (Nat.le_add_right _ _)⟩, Nat.le_refl _⟩
        | some q =>
          rw [goOn_next hc hs]
          obtain ⟨h1, h2, _⟩ := playStep_inv hok h hs hc.1
          obtain ⟨h3, h4⟩ := goOn_inv hok (ah := ah) (fin := fin) (n := n) h1
          exact ⟨⟨h3.at_, h3.len, by have := h3.steps; omega⟩, Nat.le_trans h2 h4⟩
    · rw [goOn_end hc]; exact ⟨⟨h.at_, h.len, Nat.le_trans h.steps (Nat.le_add_right _ _)⟩, Nat.le_refl _⟩

theorem goOn_fin {l : List Rule} {ah : Nat} : ∀ {n : Nat} {p : Play}, (goOn l ah true n p).2 = 0 → ¬ (goOn l ah true n p).1.at_ < (goOn l ah true n p).1.text.length
  | n, p, h => by
    by_cases hc : p.at_ < p.text.length ∧ (true = true ∨ p.at_ + ah < p.text.length)
    · match n with
      | 0 => rw [goOn_out hc] at h; simp at h
      | n + 1 =>
        cases hs : playStep l p with
        | none => rw [goOn_none hc hs] at h; simp at h
        | some q =>
          rw [goOn_next hc hs] at h ⊢
          exact goOn_fin h
    · rw [goOn_end hc]; exact fun hlt => hc ⟨hlt, .inl rfl⟩

/-- a piece is taken, so many runes having come -/
def takeF (l : List Rule) (ah : Nat) (s : Play) (came : Nat) (c : List Int) : Play × Int :=
  if 4000 < came + c.length ∨ 4000 < s.text.length + c.length then (s, 4)
  else if wrongText c ≠ 0 then (s, wrongText c)
  else goOn l ah false (8 * (came + c.length) + 40 - s.steps) ⟨s.text ++ c, s.at_, s.steps, s.put⟩
theorem takeF_much {l : List Rule} {ah : Nat} {s : Play} {came : Nat} {c : List Int} (h : 4000 < came + c.length ∨ 4000 < s.text.length + c.length) : takeF l ah s came c = (s, 4) := by unfold takeF; rw [if_pos h]
theorem takeF_bad {l : List Rule} {ah : Nat} {s : Play} {came : Nat} {c : List Int} (h : ¬ (4000 < came + c.length ∨ 4000 < s.text.length + c.length)) (hw : wrongText c ≠ 0) : takeF l ah s came c = (s, wrongText c) := by
  unfold takeF; rw [if_neg h, if_pos hw]
theorem takeF_on {l : List Rule} {ah : Nat} {s : Play} {came : Nat} {c : List Int} (h : ¬ (4000 < came + c.length ∨ 4000 < s.text.length + c.length)) (hw : wrongText c = 0) :
    takeF l ah s came c = goOn l ah false (8 * (came + c.length) + 40 - s.steps) ⟨s.text ++ c, s.at_, s.steps, s.put⟩ := by
  unfold takeF; rw [if_neg h, if_neg (by simpa using hw)]

/-- between two pieces -/
structure Strm where
  p : Play
  came : Nat
  out : List (List Int)
structure StrmOk (s : Strm) : Prop where
  ok : PlayOk (8 * s.came + 40) s.p
  came : s.came ≤ 4000
theorem takeF_inv {l : List Rule} (hok : ∀ r ∈ l, OkRule r) {ah came : Nat} {s : Play} {c : List Int} (h : PlayOk (8 * came + 40) s) (h2 : came ≤ 4000) (h0 : (takeF l ah s came c).2 = 0) :
    PlayOk (8 * (came + c.length) + 40) (takeF l ah s came c).1 ∧ s.at_ ≤ (takeF l ah s came c).1.at_ ∧ came + c.length ≤ 4000 := by
  by_cases hb : 4000 < came + c.length ∨ 4000 < s.text.length + c.length
  · rw [takeF_much hb] at h0; simp at h0
  by_cases hw : wrongText c = 0
  · rw [takeF_on hb hw]
    have h3 := h.steps; have h4 := h.at_
    obtain ⟨a, b⟩ := goOn_inv hok (ah := ah) (fin := false) (n := 8 * (came + c.length) + 40 - s.steps) (L := s.steps) (p := ⟨s.text ++ c, s.at_, s.steps, s.put⟩) ⟨by simp; omega, by simp; omega, Nat.le_refl _⟩
    exact ⟨⟨a.at_, a.len, by have := a.steps; omega⟩, b, by omega⟩
  · rw [takeF_bad hb hw] at h0; exact absurd h0 hw

/-- what is told of a piece -/
def toldF (s s' : Play) : List Int := (s'.text.take s'.at_).drop s.at_
def feedGo (l : List Rule) (ah : Nat) : Nat → Strm → List (List Int) → Strm × Int × Nat
  | k, s, [] => (s, 0, 0)
  | k, s, c :: r =>
    if (takeF l ah s.p s.came c).2 = 0 then feedGo l ah (k + 1) ⟨(takeF l ah s.p s.came c).1, s.came + c.length, s.out ++ [toldF s.p (takeF l ah s.p s.came c).1]⟩ r
    else (s, (takeF l ah s.p s.came c).2, k)
theorem feedGo_end {l : List Rule} {ah k : Nat} {s : Strm} {cs : List (List Int)} (h : cs.length ≤ k) : feedGo l ah k s (cs.drop k) = (s, 0, 0) := by
  rw [List.drop_of_length_le h]; rfl
theorem feedGo_bad {l : List Rule} {ah k : Nat} {s : Strm} {cs : List (List Int)} {c : List Int} {e : Int} (h : cs[k]? = some c) (he : (takeF l ah s.p s.came c).2 = e) (h0 : e ≠ 0) : feedGo l ah k s (cs.drop k) = (s, e, k) := by
  rw [List.drop_eq_getElem_cons (lt_of_get h), show cs[k]'(lt_of_get h) = c from (List.getElem?_eq_some_iff.1 h).2, feedGo, he, if_neg h0]
theorem feedGo_on {l : List Rule} {ah k : Nat} {s : Strm} {cs : List (List Int)} {c : List Int} {q : Play} (h : cs[k]? = some c) (he : takeF l ah s.p s.came c = (q, 0)) :
    feedGo l ah k s (cs.drop k) = feedGo l ah (k + 1) ⟨q, s.came + c.length, s.out ++ [toldF s.p q]⟩ (cs.drop (k + 1)) := by
  rw [List.drop_eq_getElem_cons (lt_of_get h), show cs[k]'(lt_of_get h) = c from (List.getElem?_eq_some_iff.1 h).2, feedGo, he, if_pos rfl]

/-- pieces, before all has come -/
def feedP (l : List Rule) (cs : List (List Int)) : Strm × Int × Nat := feedGo l (reachB l 0 0).2 0 ⟨⟨[], 0, 0, 0⟩, 0, []⟩ cs
def feedE (l : List Rule) (s : Strm) : Play × Int := goOn l (reachB l 0 0).2 true (8 * s.came + 40 - s.p.steps) s.p
/-- what Wait tells: the fault, and how many wait -/
def waitF (l : List Rule) (cs : List (List Int)) : Int × Nat :=
  if (wrongRules l).1 ≠ 0 then wrongRules l else if 200 < cs.length then (5, 0) else ((feedP l cs).2.1, (feedP l cs).2.2)
def waitN (l : List Rule) (cs : List (List Int)) : Nat := if (waitF l cs).1 ≠ 0 then 0 else (feedP l cs).1.p.text.length - (feedP l cs).1.p.at_
/-- what Feed tells: the fault, and the pieces -/
def feedF (l : List Rule) (cs : List (List Int)) : Int × Nat :=
  if (waitF l cs).1 ≠ 0 then waitF l cs else if (feedE l (feedP l cs).1).2 ≠ 0 then ((feedE l (feedP l cs).1).2, cs.length) else (0, 0)
def feedO (l : List Rule) (cs : List (List Int)) : List (List Int) :=
  if (feedF l cs).1 ≠ 0 then [] else (feedP l cs).1.out ++ [(feedE l (feedP l cs).1).1.text.drop (feedP l cs).1.p.at_]

theorem feedGo_place {l : List Rule} {ah : Nat} : ∀ {k : Nat} {s : Strm} {cs : List (List Int)}, (feedGo l ah k s cs).2.1 = 0 → (feedGo l ah k s cs).2 = (0, 0)
  | k, s, [], _ => rfl
  | k, s, c :: r, h => by
    by_cases h0 : (takeF l ah s.p s.came c).2 = 0
    · rw [feedGo, if_pos h0] at h ⊢; exact feedGo_place h
    · rw [feedGo, if_neg h0] at h; exact absurd h h0
theorem wait_rules {l : List Rule} {cs : List (List Int)} (h : (wrongRules l).1 ≠ 0) : waitF l cs = wrongRules l ∧ waitN l cs = 0 ∧ feedF l cs = wrongRules l ∧ feedO l cs = [] := by
  have h1 : waitF l cs = wrongRules l := by unfold waitF; rw [if_pos h]
  have h2 : feedF l cs = wrongRules l := by unfold feedF; rw [h1, if_pos h]
  exact ⟨h1, by unfold waitN; rw [h1, if_pos h], h2, by unfold feedO; rw [h2, if_pos h]⟩
theorem wait_many {l : List Rule} {cs : List (List Int)} (h : (wrongRules l).1 = 0) (hm : 200 < cs.length) : waitF l cs = (5, 0) ∧ waitN l cs = 0 ∧ feedF l cs = (5, 0) ∧ feedO l cs = [] := by
  have h1 : waitF l cs = (5, 0) := by unfold waitF; rw [if_neg (by simpa using h), if_pos hm]
  have h2 : feedF l cs = (5, 0) := by unfold feedF; rw [h1, if_pos (by simp)]
  exact ⟨h1, by unfold waitN; rw [h1, if_pos (by simp)], h2, by unfold feedO; rw [h2, if_pos (by simp)]⟩
theorem wait_bad {l : List Rule} {cs : List (List Int)} (h : (wrongRules l).1 = 0) (hm : ¬ 200 < cs.length) {s : Strm} {e : Int} {k : Nat} (hf : feedP l cs = (s, e, k)) (he : e ≠ 0) : waitF l cs = (e, k) ∧ waitN l cs = 0 ∧ feedF l cs = (e, k) ∧ feedO l cs = [] := by
  have h1 : waitF l cs = (e, k) := by unfold waitF; rw [if_neg (by simpa using h), if_neg hm, hf]
  have h2 : feedF l cs = (e, k) := by unfold feedF; rw [h1, if_pos he]
  exact ⟨h1, by unfold waitN; rw [h1, if_pos he], h2, by unfold feedO; rw [h2, if_pos he]⟩
theorem wait_fine {l : List Rule} {cs : List (List Int)} (h : (wrongRules l).1 = 0) (hm : ¬ 200 < cs.length) {s : Strm} (hf : feedP l cs = (s, 0, 0)) : waitF l cs = (0, 0) ∧ waitN l cs = s.p.text.length - s.p.at_ := by
  have h1 : waitF l cs = (0, 0) := by unfold waitF; rw [if_neg (by simpa using h), if_neg hm, hf]
  exact ⟨h1, by unfold waitN; rw [h1, if_neg (by simp), hf]⟩
theorem feed_bad {l : List Rule} {cs : List (List Int)} (h : (wrongRules l).1 = 0) (hm : ¬ 200 < cs.length) {s : Strm} (hf : feedP l cs = (s, 0, 0)) {q : Play} {e : Int} (hg : feedE l s = (q, e)) (he : e ≠ 0) : feedF l cs = (e, cs.length) ∧ feedO l cs = [] := by
  have h2 : feedF l cs = (e, cs.length) := by unfold feedF; rw [(wait_fine h hm hf).1, if_neg (by simp), hf, hg, if_pos he]
  exact ⟨h2, by unfold feedO; rw [h2, if_pos he]⟩
theorem feed_fine {l : List Rule} {cs : List (List Int)} (h : (wrongRules l).1 = 0) (hm : ¬ 200 < cs.length) {s : Strm} (hf : feedP l cs = (s, 0, 0)) {q : Play} (hg : feedE l s = (q, 0)) : feedF l cs = (0, 0) ∧ feedO l cs = s.out ++ [q.text.drop s.p.at_] := by
  have h2 : feedF l cs = (0, 0) := by unfold feedF; rw [(wait_fine h hm hf).1, if_neg (by simp), hf, hg, if_neg (by simp)]
  exact ⟨h2, by unfold feedO; rw [h2, if_neg (by simp), hf, hg]⟩

end Go.Proofs.Ytfdkbhbnldcbmaa
