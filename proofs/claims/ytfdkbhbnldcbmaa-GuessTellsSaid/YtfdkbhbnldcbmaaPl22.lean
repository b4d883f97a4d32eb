/- Plain: of which texts something may have come. No program in sight. -/
import Derived.Test.YtfdkbhbnldcbmaaPl14
namespace Go.Proofs.Ytfdkbhbnldcbmaa
set_option linter.unusedVariables false
set_option linter.unusedSimpArgs false

/-- all texts of so many units, in order -/
def lvl (us : List Int) : Nat → List (List Int)
  | 0 => [[]]
  | j + 1 => (lvl us j).flatMap fun t => us.map fun u => t ++ [u]
/-- the last digits of a number, as units -/
def dig (us : List Int) (n : Nat) : Nat → Nat → List Int
  | 0, _ => []
  | j + 1, k => us.getD ((k / n ^ j) % n) 0 :: dig us n j k
theorem dig_snoc (us : List Int) (n : Nat) : ∀ (j k : Nat), dig us n (j + 1) k = dig us n j (k / n) ++ [us.getD (k % n) 0]
  | 0, k => by simp [dig]
  | j + 1, k => by
    have ih := dig_snoc us n j k
    have e : k / n ^ (j + 1) = k / n / n ^ j := by rw [Nat.div_div_eq_div_mul, Nat.pow_succ, Nat.mul_comm]
    rw [dig, ih, e]
    rw [dig]
    rfl
theorem range_mul {α : Type} (f : Nat → α) (n : Nat) : ∀ m : Nat, (List.range (m * n)).map f = (List.range m).flatMap fun q => (List.range n).map fun r => f (q * n + r)
  | 0 => by simp
  | m + 1 => by
    rw [Nat.succ_mul, List.range_add, List.map_append, range_mul f n m, List.range_succ, List.flatMap_append]
    simp [Function.comp_def]
theorem map_getD {α : Type} (f : Int → α) (us : List Int) : us.map f = (List.range us.length).map fun r => f (us.getD r 0) := by
  apply List.ext_getElem
  · simp
  · intro i h1 h2
    have h3 : i < us.length := by simpa using h1
    simp [List.getD, h3]
theorem lvl_eq (us : List Int) : ∀ j : Nat, lvl us j = (List.range (us.length ^ j)).map (dig us us.length j)
  | 0 => by simp [lvl, dig, List.range_succ]
  | j + 1 => by
    rw [lvl, lvl_eq us j, Nat.pow_succ, range_mul, List.flatMap_map]
    congr 1
    funext q
    rw [map_getD]
    apply List.map_congr_left
    intro r hr
    rw [List.mem_range] at hr
    have hn : 0 < us.length := by omega
    show dig us us.length j q ++ [us.getD r 0] = dig us us.length (j + 1) (q * us.length + r)
    rw [dig_snoc]
    have e1 : (q * us.length + r) / us.length = q := by rw [Nat.mul_comm, Nat.mul_add_div hn, Nat.div_eq_of_lt hr]; rfl
    have e2 : (q * us.length + r) % us.length = r := by rw [Nat.mul_comm, Nat.mul_add_mod, Nat.mod_eq_of_lt hr]
    rw [e1, e2]
theorem lvl_length (us : List Int) (j : Nat) : (lvl us j).length = us.length ^ j := by rw [lvl_eq]; simp
theorem lvl_get {us : List Int} {j k : Nat} (h : k < us.length ^ j) : (lvl us j)[k]? = some (dig us us.length j k) := by
  rw [lvl_eq, List.getElem?_map, List.getElem?_range h]; rfl
theorem pow_small {n j : Nat} (hn : n ≤ 5) (hj : j ≤ 5) : n ^ j ≤ 3125 := by
  have h1 : n ^ j ≤ 5 ^ j := Nat.pow_le_pow_left hn j
  have h2 : 5 ^ j ≤ 5 ^ 5 := Nat.pow_le_pow_right (by omega) hj
  omega
theorem dig_len (us : List Int) (n : Nat) : ∀ j k, (dig us n j k).length = j
  | 0, _ => rfl
  | j + 1, k => by rw [dig, List.length_cons, dig_len us n j k]

/-- each text of a level with each unit behind it -/
def nxt (us : List Int) (L : List (List Int)) : List (List Int) := L.flatMap fun t => us.map fun u => t ++ [u]
theorem lvl_succ (us : List Int) (j : Nat) : lvl us (j + 1) = nxt us (lvl us j) := rfl
theorem nxt_snoc (us : List Int) (L : List (List Int)) (t : List Int) : nxt us (L ++ [t]) = nxt us L ++ us.map fun u => t ++ [u] := by simp [nxt]
theorem nxt_len (us : List Int) : ∀ L : List (List Int), (nxt us L).length = L.length * us.length
  | [] => by simp [nxt]
  | t :: L => by
    have ih := nxt_len us L
    unfold nxt at ih ⊢
    rw [List.flatMap_cons, List.length_append, ih, List.length_map, List.length_cons, Nat.succ_mul, Nat.add_comm]
theorem lvl_mem_len (us : List Int) (j : Nat) {t : List Int} (h : t ∈ lvl us j) : t.length = j := by
  rw [lvl_eq] at h
  obtain ⟨k, _, rfl⟩ := List.mem_map.1 h
  exact dig_len _ _ _ _
/-- whether a text comes to another -/
def comes (l : List Rule) (t x : List Int) : Bool := decide ((runF l x).1 = 0) && decide ((runAll l x).text = t)
def unitsR (d : List Sp) : List Int := (unitsL d).filter right
/-- what is guessed of the lengths below -/
def gsV (l : List Rule) (us : List Int) (t : List Int) (m : Nat) : List (List Int) := (List.range m).flatMap fun j => (lvl us j).filter (comes l t)
theorem gs_zero (l : List Rule) (us t : List Int) : gsV l us t 0 = [] := rfl
theorem gs_succ (l : List Rule) (us t : List Int) (m : Nat) : gsV l us t (m + 1) = gsV l us t m ++ (lvl us m).filter (comes l t) := by
  unfold gsV; rw [List.range_succ, List.flatMap_append]; simp
theorem gs_len (l : List Rule) (us t : List Int) (hu : us.length ≤ 5) : ∀ m : Nat, m ≤ 6 → (gsV l us t m).length ≤ 3125 * m
  | 0, _ => by simp [gs_zero]
  | m + 1, h => by
    have ih := gs_len l us t hu m (by omega)
    have h2 := List.length_filter_le (comes l t) (lvl us m)
    rw [lvl_length] at h2
    have h3 := pow_small hu (by omega : m ≤ 5)
    rw [gs_succ, List.length_append]
    omega
/-- what is wrong with a question -/
def guE (l : List Rule) (d : List Sp) (t : List Int) : Int :=
  if (wrongRules l).1 ≠ 0 then (wrongRules l).1 else if wrongSet d ≠ 0 then wrongSet d else if 5 < countL d then 5 else wrongText t
def guessE (l : List Rule) (d : List Sp) (t : List Int) (m : Int) : Int :=
  if guE l d t ≠ 0 then guE l d t else if m < 0 ∨ 5 < m then 3 else 0
def guessV (l : List Rule) (d : List Sp) (t : List Int) (m : Int) : List (List Int) :=
  if guessE l d t m ≠ 0 then [] else gsV l (unitsR d) t (m.toNat + 1)
theorem guE1 {l : List Rule} {d : List Sp} {t : List Int} (h : (wrongRules l).1 ≠ 0) : guE l d t = (wrongRules l).1 := by unfold guE; rw [if_pos h]
theorem guE2 {l : List Rule} {d : List Sp} {t : List Int} (h : (wrongRules l).1 = 0) (h2 : wrongSet d ≠ 0) : guE l d t = wrongSet d := by unfold guE; rw [if_neg (by simpa using h), if_pos h2]
theorem guE3 {l : List Rule} {d : List Sp} {t : List Int} (h : (wrongRules l).1 = 0) (h2 : wrongSet d = 0) (h3 : 5 < countL d) : guE l d t = 5 := by unfold guE; rw [if_neg (by simpa using h), if_neg (by simpa using h2), if_pos h3]
theorem guE4 {l : List Rule} {d : List Sp} {t : List Int} (h : (wrongRules l).1 = 0) (h2 : wrongSet d = 0) (h3 : ¬ 5 < countL d) : guE l d t = wrongText t := by unfold guE; rw [if_neg (by simpa using h), if_neg (by simpa using h2), if_neg h3]
theorem guE_zero {l : List Rule} {d : List Sp} {t : List Int} (h : guE l d t = 0) : (wrongRules l).1 = 0 ∧ wrongSet d = 0 ∧ countL d ≤ 5 ∧ wrongText t = 0 := by
  by_cases h1 : (wrongRules l).1 = 0
  · by_cases h2 : wrongSet d = 0
    · by_cases h3 : 5 < countL d
      · rw [guE3 h1 h2 h3] at h; simp at h
      · rw [guE4 h1 h2 h3] at h; exact ⟨h1, h2, by omega, h⟩
    · rw [guE2 h1 h2] at h; exact absurd h h2
  · rw [guE1 h1] at h; exact absurd h h1
theorem guess_bad {l : List Rule} {d : List Sp} {t : List Int} {m : Int} (h : guE l d t ≠ 0) : guessE l d t m = guE l d t ∧ guessV l d t m = [] := by
  have e : guessE l d t m = guE l d t := by unfold guessE; rw [if_pos h]
  refine ⟨e, ?_⟩
  unfold guessV; rw [e, if_pos h]
theorem guess_far {l : List Rule} {d : List Sp} {t : List Int} {m : Int} (h : guE l d t = 0) (hm : m < 0 ∨ 5 < m) : guessE l d t m = 3 ∧ guessV l d t m = [] := by
  have e : guessE l d t m = 3 := by unfold guessE; rw [if_neg (by simpa using h), if_pos hm]
  refine ⟨e, ?_⟩
  unfold guessV; rw [e, if_pos (by omega)]
theorem guess_ok {l : List Rule} {d : List Sp} {t : List Int} {m : Nat} (h : guE l d t = 0) (hm : m ≤ 5) : guessE l d t m = 0 ∧ guessV l d t m = gsV l (unitsR d) t (m + 1) := by
  have e : guessE l d t m = 0 := by unfold guessE; rw [if_neg (by simpa using h), if_neg (by omega)]
  refine ⟨e, ?_⟩
  unfold guessV; rw [e, if_neg (by omega), Int.toNat_natCast]

end Go.Proofs.Ytfdkbhbnldcbmaa
