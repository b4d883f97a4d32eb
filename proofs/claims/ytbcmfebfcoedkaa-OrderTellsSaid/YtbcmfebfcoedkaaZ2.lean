/- Plain: exchanges, rotations, binary search and merging in place. No program in sight. -/
import Derived.Test.YtbcmfebfcoedkaaZ1
namespace Go.Proofs.Ytbcmfebfcoedkaa
set_option linter.unusedVariables false
set_option linter.unusedSimpArgs false

/-- two places change what they hold -/
def sw (l : List Int) (i j : Nat) : List Int := (l.set i (l.getD j 0)).set j (l.getD i 0)
@[simp] theorem sw_len (l : List Int) (i j : Nat) : (sw l i j).length = l.length := by simp [sw]
theorem getD_at (P S : List Int) (x : Int) : (P ++ x :: S).getD P.length 0 = x := by simp [List.getD_eq_getElem?_getD]
theorem getD_at' {P S : List Int} {x : Int} {i : Nat} (h : i = P.length) : (P ++ x :: S).getD i 0 = x := by rw [h]; exact getD_at P S x
theorem set_at {P S : List Int} {x : Int} {i : Nat} (h : i = P.length) (y : Int) : (P ++ x :: S).set i y = P ++ y :: S := by
  subst h
  rw [List.set_append]
  simp
theorem sw_at {P Q S : List Int} {y z : Int} {i j : Nat} (hi : i = P.length) (hj : j = P.length + 1 + Q.length) : sw (P ++ y :: (Q ++ z :: S)) i j = P ++ z :: (Q ++ y :: S) := by
  have e1 : (P ++ y :: (Q ++ z :: S)).getD j 0 = z := by
    have := getD_at' (P := P ++ y :: Q) (S := S) (x := z) (i := j) (by simp; omega)
    simpa using this
  have e2 : (P ++ y :: (Q ++ z :: S)).getD i 0 = y := getD_at' hi
  unfold sw
  rw [e1, e2, set_at hi]
  have := set_at (P := P ++ z :: Q) (S := S) (x := z) (i := j) (by simp; omega) y
  simpa using this
theorem sw_at' {P Q S : List Int} {y z : Int} {i j : Nat} (hi : i = P.length) (hj : j = P.length + 1 + Q.length) : sw (P ++ y :: (Q ++ z :: S)) j i = P ++ z :: (Q ++ y :: S) := by
  have e1 : (P ++ y :: (Q ++ z :: S)).getD j 0 = z := by
    have := getD_at' (P := P ++ y :: Q) (S := S) (x := z) (i := j) (by simp; omega)
    simpa using this
  have e2 : (P ++ y :: (Q ++ z :: S)).getD i 0 = y := getD_at' hi
  unfold sw
  rw [e1, e2]
  have := set_at (P := P ++ y :: Q) (S := S) (x := z) (i := j) (by simp; omega) y
  have h2 : (P ++ y :: (Q ++ z :: S)).set j y = P ++ y :: (Q ++ y :: S) := by simpa using this
  rw [h2, set_at hi]
theorem sw_mem {l : List Int} {i j : Nat} (hi : i < l.length) (hj : j < l.length) {x : Int} (hx : x ∈ sw l i j) : x ∈ l := by
  unfold sw at hx
  have m : ∀ k, k < l.length → l.getD k 0 ∈ l := fun k hk => by rw [List.getD_eq_getElem?_getD, List.getElem?_eq_getElem hk]; simp
  rcases List.mem_or_eq_of_mem_set hx with h | h
  · rcases List.mem_or_eq_of_mem_set h with h | h
    · exact h
    · rw [h]; exact m j hj
  · rw [h]; exact m i hi

/-- n places from a on change with those from b on -/
def swR (l : List Int) (a b : Nat) : Nat → List Int
  | 0 => l
  | n + 1 => sw (swR l a b n) (a + n) (b + n)
@[simp] theorem swR_len (l : List Int) (a b n : Nat) : (swR l a b n).length = l.length := by
  induction n with
  | zero => rfl
  | succ n ih => simp [swR, ih]
theorem swR_at {P Q S : List Int} {a b : Nat} (ha : a = P.length) : ∀ (A B A' B' : List Int), A.length = B.length → A'.length = B'.length → b = P.length + (A ++ A').length + Q.length →
    swR (P ++ (A ++ A') ++ Q ++ (B ++ B') ++ S) a b A.length = P ++ (B ++ A') ++ Q ++ (A ++ B') ++ S := by
  intro A
  induction hn : A.length generalizing A with
  | zero =>
    intro B A' B' h1 h2 hb
    rw [List.eq_nil_of_length_eq_zero hn, List.eq_nil_of_length_eq_zero (l := B) (by omega)]
    rfl
  | succ n ih =>
    intro B A' B' h1 h2 hb
    have hA : A ≠ [] := fun e => by rw [e] at hn; simp at hn
    have hB : B ≠ [] := fun e => by rw [e] at h1; simp at h1
    obtain ⟨A0, y, eA⟩ : ∃ A0 y, A = A0 ++ [y] := ⟨_, _, (List.dropLast_concat_getLast hA).symm⟩
    obtain ⟨B0, z, eB⟩ : ∃ B0 z, B = B0 ++ [z] := ⟨_, _, (List.dropLast_concat_getLast hB).symm⟩
    subst eA eB
    simp at hn h1
    have := ih A0 hn B0 (y :: A') (z :: B') (by omega) (by simp; omega) (by simp at hb ⊢; omega)
    rw [swR]
    have e : P ++ (A0 ++ [y] ++ A') ++ Q ++ (B0 ++ [z] ++ B') ++ S = P ++ (A0 ++ y :: A') ++ Q ++ (B0 ++ z :: B') ++ S := by simp
    rw [e, this]
    have := sw_at (P := P ++ B0) (Q := A' ++ Q ++ A0) (S := B' ++ S) (y := y) (z := z) (i := a + n) (j := b + n) (by simp; omega) (by simp at hb ⊢; omega)
    simpa using this
theorem swR_all {P Q S A B : List Int} {a b n : Nat} (ha : a = P.length) (hA : A.length = n) (hB : B.length = n) (hb : b = P.length + n + Q.length) :
    swR (P ++ A ++ Q ++ B ++ S) a b n = P ++ B ++ Q ++ A ++ S := by
  have := swR_at (P := P) (Q := Q) (S := S) (a := a) (b := b) ha A B [] [] (by omega) rfl (by simp; omega)
  rw [hA] at this
  simpa using this

/-- a rotation under way: T is what it comes to -/
def RotI (l : List Int) (m i j : Nat) (T : List Int) : Prop := ∃ P X Y S, l = P ++ X ++ Y ++ S ∧ X.length = i ∧ Y.length = j ∧ P.length + i = m ∧ P ++ Y ++ X ++ S = T
theorem cut_at (X : List Int) (j : Nat) (h : j ≤ X.length) : ∃ X1 X2, X = X1 ++ X2 ∧ X1.length = j ∧ X2.length = X.length - j :=
  ⟨X.take j, X.drop j, (List.take_append_drop _ _).symm, by simp; omega, by simp⟩
theorem RotI.more {l T : List Int} {m i j : Nat} (h : RotI l m i j T) (hij : j < i) : RotI (swR l (m - i) m j) m (i - j) j T := by
  obtain ⟨P, X, Y, S, rfl, hX, hY, hm, hT⟩ := h
  obtain ⟨X1, X2, rfl, h1, h2⟩ := cut_at X j (by omega)
  refine ⟨P ++ Y, X2, X1, S, ?_, by omega, h1, by simp; omega, by rw [← hT]; simp⟩
  have := swR_all (P := P) (A := X1) (Q := X2) (B := Y) (S := S) (a := m - i) (b := m) (n := j) (by omega) h1 hY (by omega)
  rw [show P ++ (X1 ++ X2) ++ Y ++ S = P ++ X1 ++ X2 ++ Y ++ S by simp, this]
theorem RotI.less {l T : List Int} {m i j : Nat} (h : RotI l m i j T) (hij : i < j) : RotI (swR l (m - i) (m + j - i) i) m i (j - i) T := by
  obtain ⟨P, X, Y, S, rfl, hX, hY, hm, hT⟩ := h
  obtain ⟨Y1, Y2, rfl, h1, h2⟩ := cut_at Y (j - i) (by omega)
  refine ⟨P, Y2, Y1, X ++ S, ?_, by omega, h1, hm, by rw [← hT]; simp⟩
  have := swR_all (P := P) (A := X) (Q := Y1) (B := Y2) (S := S) (a := m - i) (b := m + j - i) (n := i) (by omega) hX (by omega) (by omega)
  rw [show P ++ X ++ (Y1 ++ Y2) ++ S = P ++ X ++ Y1 ++ Y2 ++ S by simp, this]
  simp
theorem RotI.done {l T : List Int} {m i : Nat} (h : RotI l m i i T) : swR l (m - i) m i = T := by
  obtain ⟨P, X, Y, S, rfl, hX, hY, hm, hT⟩ := h
  have := swR_all (P := P) (A := X) (Q := []) (B := Y) (S := S) (a := m - i) (b := m) (n := i) (by omega) hX hY (by simp; omega)
  simp only [List.append_nil] at this
  rw [this, hT]
theorem RotI.sizes {l T : List Int} {m i j : Nat} (h : RotI l m i j T) : i ≤ m ∧ m + j ≤ l.length := by
  obtain ⟨P, X, Y, S, rfl, hX, hY, hm, hT⟩ := h
  simp; omega

section
variable {lt : Int → Int → Bool}

/-- the outer loop: what was M is sorted, what is R is as it was -/
def InsO (lt : Int → Int → Bool) (l P M R : List Int) : Prop := l = P ++ isort lt M ++ R

/-- the letter that moves is x -/
def InsX (lt : Int → Int → Bool) (l P M R : List Int) (x : Int) (j : Nat) : Prop := ∃ U V, l = P ++ U ++ x :: (V ++ R) ∧ U ++ V = isort lt M ∧ P.length + U.length = j ∧ ∀ y ∈ V, lt x y = true
theorem InsX.start {l P M R : List Int} {x : Int} {j : Nat} (h : InsO lt l P M (x :: R)) (hj : j = P.length + M.length) (o : Ord lt) : InsX lt l P M R x j :=
  ⟨isort lt M, [], by rw [h]; simp, by simp, by rw [isort_len o]; omega, by simp⟩
theorem InsX.go {l P M R : List Int} {x : Int} {j : Nat} (h : InsX lt l P M R x (j + 1)) (hj : P.length < j + 1) (hl : lt (l.getD (j + 1) 0) (l.getD j 0) = true) : InsX lt (sw l (j + 1) j) P M R x j := by
  obtain ⟨U, V, rfl, hM, hU, hV⟩ := h
  have hne : U ≠ [] := fun e => by rw [e] at hU; simp at hU; omega
  obtain ⟨U0, y, eU⟩ : ∃ U0 y, U = U0 ++ [y] := ⟨_, _, (List.dropLast_concat_getLast hne).symm⟩
  subst eU
  simp at hU
  have e0 : P ++ (U0 ++ [y]) ++ x :: (V ++ R) = (P ++ U0) ++ y :: ([] ++ x :: (V ++ R)) := by simp
  have e1 := sw_at' (P := P ++ U0) (Q := []) (S := V ++ R) (y := y) (z := x) (i := j) (j := j + 1) (by simp; omega) (by simp; omega)
  have hx : (P ++ (U0 ++ [y]) ++ x :: (V ++ R)).getD (j + 1) 0 = x := getD_at' (by simp; omega)
  have hy : (P ++ (U0 ++ [y]) ++ x :: (V ++ R)).getD j 0 = y := by
    have := getD_at' (P := P ++ U0) (S := x :: (V ++ R)) (x := y) (i := j) (by simp; omega)
    simpa using this
  rw [hx, hy] at hl
  rw [e0, e1]
  refine ⟨U0, y :: V, by simp, by rw [← hM]; simp, by omega, fun z hz => ?_⟩
  rcases List.mem_cons.1 hz with rfl | hz
  · exact hl
  · exact hV z hz
theorem InsX.stop (o : Ord lt) {l P M R : List Int} {x : Int} {j : Nat} (h : InsX lt l P M R x j) (hs : j ≤ P.length ∨ lt (l.getD j 0) (l.getD (j - 1) 0) = false) : InsO lt l P (M ++ [x]) R := by
  obtain ⟨U, V, rfl, hM, hU, hV⟩ := h
  have hsM := (isort_both o M).1
  rw [← hM] at hsM
  have hUx : ∀ y ∈ U, lt x y = false := by
    by_cases hne : U = []
    · rw [hne]; simp
    · obtain ⟨U0, y, eU⟩ : ∃ U0 y, U = U0 ++ [y] := ⟨_, _, (List.dropLast_concat_getLast hne).symm⟩
      subst eU
      simp at hU
      have hx : (P ++ (U0 ++ [y]) ++ x :: (V ++ R)).getD j 0 = x := getD_at' (by simp; omega)
      have hy : (P ++ (U0 ++ [y]) ++ x :: (V ++ R)).getD (j - 1) 0 = y := by
        have := getD_at' (P := P ++ U0) (S := x :: (V ++ R)) (x := y) (i := j - 1) (by simp; omega)
        simpa using this
      rcases hs with hs | hs
      · omega
      · rw [hx, hy] at hs
        intro z hz
        rcases List.mem_append.1 hz with hz | hz
        · exact o.nt z y x ((hsM.left).cross z hz y (by simp)) hs
        · simp at hz; subst hz; exact hs
  unfold InsO
  rw [isort_snoc, ← hM, insA_split o hUx hV]
  simp

/-- a binary search under way -/
structure Bs (f : Nat → Bool) (lo hi i j : Nat) : Prop where
  a : lo ≤ i
  b : i ≤ j
  c : j ≤ hi
  yes : ∀ k, lo ≤ k → k < i → f k = true
  no : ∀ k, j ≤ k → k < hi → f k = false
theorem Bs.start {f : Nat → Bool} {lo hi : Nat} (h : lo ≤ hi) : Bs f lo hi lo hi := ⟨Nat.le_refl _, h, Nat.le_refl _, fun k h1 h2 => by omega, fun k h1 h2 => by omega⟩
theorem Bs.up {f : Nat → Bool} {lo hi i j h : Nat} (s : Bs f lo hi i j) (mono : ∀ p q, lo ≤ p → p ≤ q → q < hi → f q = true → f p = true) (h1 : i ≤ h) (h2 : h < j) (hf : f h = true) : Bs f lo hi (h + 1) j := by
  have := s.a; have := s.b; have := s.c
  exact ⟨by omega, by omega, s.c, fun k k1 k2 => mono k h k1 (by omega) (by omega) hf, s.no⟩
theorem Bs.down {f : Nat → Bool} {lo hi i j h : Nat} (s : Bs f lo hi i j) (mono : ∀ p q, lo ≤ p → p ≤ q → q < hi → f q = true → f p = true) (h1 : i ≤ h) (h2 : h < j) (hf : f h = false) : Bs f lo hi i h := by
  have := s.a; have := s.b; have := s.c
  refine ⟨s.a, h1, by omega, s.yes, fun k k1 k2 => ?_⟩
  cases hk : f k
  · rfl
  · rw [mono h k (by omega) k1 k2 hk] at hf; cases hf

end

end Go.Proofs.Ytbcmfebfcoedkaa
