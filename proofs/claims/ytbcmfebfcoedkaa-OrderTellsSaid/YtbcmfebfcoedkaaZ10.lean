/- Plain: classes of marks, and sorting by them. No program in sight. -/
import Derived.Test.YtbcmfebfcoedkaaZ2b
import Derived.Test.YtbcmfebfcoedkaaZ3
namespace Go.Proofs.Ytbcmfebfcoedkaa
set_option linter.unusedVariables false
set_option linter.unusedSimpArgs false

def clsOf (r : Int) : Int := if r = 807 ∨ r = 808 then 202 else if r = 803 then 220 else if r = 768 ∨ r = 769 ∨ r = 770 ∨ r = 771 ∨ r = 776 ∨ r = 778 ∨ r = 780 then 230 else 0
theorem clsOf_cases (r : Int) : clsOf r = 0 ∨ clsOf r = 202 ∨ clsOf r = 220 ∨ clsOf r = 230 := by
  unfold clsOf
  by_cases h1 : r = 807 ∨ r = 808
  · rw [if_pos h1]; simp
  · rw [if_neg h1]
    by_cases h2 : r = 803
    · rw [if_pos h2]; simp
    · rw [if_neg h2]
      by_cases h3 : r = 768 ∨ r = 769 ∨ r = 770 ∨ r = 771 ∨ r = 776 ∨ r = 778 ∨ r = 780
      · rw [if_pos h3]; simp
      · rw [if_neg h3]; simp
theorem clsOf_nn (r : Int) : 0 ≤ clsOf r ∧ clsOf r ≤ 230 := by rcases clsOf_cases r with h | h | h | h <;> omega
/-- cmp.Compare -/
def cmpI (x y : Int) : Int := if x < y then -1 else if y < x then 1 else 0
def cmpC (x y : Int) : Int := cmpI (clsOf x) (clsOf y)
theorem ltC_cmpC (x y : Int) : ltC cmpC x y = decide (clsOf x < clsOf y) := by
  unfold ltC cmpC cmpI
  by_cases h : clsOf x < clsOf y
  · rw [if_pos h]; simp [h]
  · rw [if_neg h]
    by_cases h2 : clsOf y < clsOf x
    · rw [if_pos h2]; simp [h]
    · rw [if_neg h2]; simp [h]
theorem ordC : Ord (ltC cmpC) where
  as x y h := by rw [ltC_cmpC] at *; simp at *; omega
  nt x y z h k := by rw [ltC_cmpC] at *; simp at *; omega

/-- the document's way: put behind those that are not more, from the end -/
def insR (out : List Int) (x : Int) : List Int :=
  (out.reverse.dropWhile fun y => decide (0 < clsOf x) && decide (clsOf x < clsOf y)).reverse ++ x :: (out.reverse.takeWhile fun y => decide (0 < clsOf x) && decide (clsOf x < clsOf y)).reverse
theorem insR_split {a b : List Int} {x : Int} (ha : a = [] ∨ ∃ a' y, a = a' ++ [y] ∧ (decide (0 < clsOf x) && decide (clsOf x < clsOf y)) = false)
    (hb : ∀ y ∈ b, (decide (0 < clsOf x) && decide (clsOf x < clsOf y)) = true) : insR (a ++ b) x = a ++ x :: b := by
  unfold insR
  rw [List.reverse_append]
  have hb' : ∀ y ∈ b.reverse, (decide (0 < clsOf x) && decide (clsOf x < clsOf y)) = true := fun y hy => hb y (List.mem_reverse.1 hy)
  have e : ∀ l : List Int, (∀ y ∈ l, (decide (0 < clsOf x) && decide (clsOf x < clsOf y)) = true) → ∀ r, (l ++ r).takeWhile (fun y => decide (0 < clsOf x) && decide (clsOf x < clsOf y)) = l ++ r.takeWhile (fun y => decide (0 < clsOf x) && decide (clsOf x < clsOf y)) ∧
      (l ++ r).dropWhile (fun y => decide (0 < clsOf x) && decide (clsOf x < clsOf y)) = r.dropWhile fun y => decide (0 < clsOf x) && decide (clsOf x < clsOf y) := by
    intro l hl r
    induction l with
    | nil => simp
    | cons y l ih =>
      have h1 := hl y (by simp)
      have h2 := ih (fun z hz => hl z (by simp [hz]))
      constructor
      · rw [List.cons_append, List.takeWhile_cons, h1, if_pos rfl, h2.1]; rfl
      · rw [List.cons_append, List.dropWhile_cons, h1, if_pos rfl, h2.2]
  rw [(e _ hb' _).1, (e _ hb' _).2]
  rcases ha with rfl | ⟨a', y, rfl, hy⟩
  · simp
  · rw [List.reverse_append, List.reverse_singleton, List.singleton_append, List.takeWhile_cons, List.dropWhile_cons, hy]; simp
theorem insR_zero {out : List Int} {x : Int} (h : clsOf x = 0) : insR out x = out ++ [x] := by
  have := insR_split (a := out) (b := []) (x := x) (by
    by_cases e : out = []
    · exact .inl e
    · exact .inr ⟨_, _, (List.dropLast_concat_getLast e).symm, by simp [h]⟩) (by simp)
  rw [List.append_nil] at this
  exact this
theorem insR_mark {G S : List Int} {x : Int} (hG : G = [] ∨ ∃ G' y, G = G' ++ [y] ∧ clsOf y = 0) (hS : Srt (ltC cmpC) S) (hm : ∀ y ∈ S, 0 < clsOf y) (hx : 0 < clsOf x) : insR (G ++ S) x = G ++ insA (ltC cmpC) S x := by
  obtain ⟨a, b, rfl, ha, hb⟩ := srt_split ordC x hS
  rw [insA_split ordC ha hb, ← List.append_assoc]
  rw [insR_split (a := G ++ a) (b := b) ?_ ?_]
  · simp
  · by_cases e : a = []
    · subst e
      rcases hG with rfl | ⟨G', y, rfl, hy⟩
      · exact .inl rfl
      · exact .inr ⟨G', y, by simp, by rw [hy]; simp; omega⟩
    · refine .inr ⟨G ++ a.dropLast, a.getLast e, by rw [List.append_assoc, List.dropLast_concat_getLast], ?_⟩
      have := ha _ (List.getLast_mem e)
      rw [ltC_cmpC] at this
      simp at this ⊢
      intro _; exact this
  · intro y hy
    have := hb y hy
    rw [ltC_cmpC] at this
    simp at this ⊢
    exact ⟨hx, this⟩

/-- a text with its marks in the order of their classes -/
def nsort (l : List Int) : List Int := l.foldl insR []
theorem nsort_snoc (l : List Int) (x : Int) : nsort (l ++ [x]) = insR (nsort l) x := by unfold nsort; rw [List.foldl_append]; rfl
theorem nsort_zero {l : List Int} {x : Int} (h : clsOf x = 0) : nsort (l ++ [x]) = nsort l ++ [x] := by rw [nsort_snoc, insR_zero h]
theorem nsort_marks {l : List Int} (hl : l = [] ∨ ∃ l' y, l = l' ++ [y] ∧ clsOf y = 0) (M : List Int) (hM : ∀ y ∈ M, 0 < clsOf y) : nsort (l ++ M) = nsort l ++ isort (ltC cmpC) M := by
  have hG : nsort l = [] ∨ ∃ G' y, nsort l = G' ++ [y] ∧ clsOf y = 0 := by
    rcases hl with rfl | ⟨l', y, rfl, hy⟩
    · exact .inl rfl
    · exact .inr ⟨nsort l', y, nsort_zero hy, hy⟩
  induction hn : M.length generalizing M with
  | zero => rw [List.eq_nil_of_length_eq_zero hn]; simp [isort]
  | succ n ih =>
    have hne : M ≠ [] := fun e => by rw [e] at hn; simp at hn
    obtain ⟨M0, x, rfl⟩ : ∃ M0 x, M = M0 ++ [x] := ⟨_, _, (List.dropLast_concat_getLast hne).symm⟩
    have h0 : ∀ y ∈ M0, 0 < clsOf y := fun y hy => hM y (by simp [hy])
    rw [← List.append_assoc, nsort_snoc, ih M0 h0 (by simp at hn; omega), isort_snoc]
    refine insR_mark hG (isort_both ordC M0).1 (fun y hy => h0 y ((isort_both ordC M0).2.symm.mem ordC hy)) (hM x (by simp))
theorem insR_len (out : List Int) (x : Int) : (insR out x).length = out.length + 1 := by
  have := congrArg List.length (List.takeWhile_append_dropWhile (p := fun y => decide (0 < clsOf x) && decide (clsOf x < clsOf y)) (l := out.reverse))
  rw [List.length_append, List.length_reverse] at this
  unfold insR
  rw [List.length_append, List.length_reverse, List.length_cons, List.length_reverse]
  omega
theorem insR_mem {out : List Int} {x y : Int} (h : y ∈ insR out x) : y = x ∨ y ∈ out := by
  unfold insR at h
  rcases List.mem_append.1 h with h | h
  · right
    have := List.mem_reverse.1 h
    exact List.mem_reverse.1 ((List.dropWhile_sublist _).subset this)
  · rcases List.mem_cons.1 h with h | h
    · exact .inl h
    · right
      have := List.mem_reverse.1 h
      exact List.mem_reverse.1 ((List.takeWhile_sublist _).subset this)
theorem nsort_len (l : List Int) : (nsort l).length = l.length := by
  induction hn : l.length generalizing l with
  | zero => rw [List.eq_nil_of_length_eq_zero hn]; rfl
  | succ n ih =>
    have hne : l ≠ [] := fun e => by rw [e] at hn; simp at hn
    obtain ⟨l0, x, rfl⟩ : ∃ l0 x, l = l0 ++ [x] := ⟨_, _, (List.dropLast_concat_getLast hne).symm⟩
    rw [nsort_snoc, insR_len, ih l0 (by simp at hn; omega)]

end Go.Proofs.Ytbcmfebfcoedkaa
