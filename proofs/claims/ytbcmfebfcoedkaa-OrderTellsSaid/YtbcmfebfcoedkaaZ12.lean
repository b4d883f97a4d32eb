/- Plain: the letters that are put together, as lists. No program in sight. -/
import Derived.Test.YtbcmfebfcoedkaaZ10
import Derived.Laws.IdiomStrings
namespace Go.Proofs.Ytbcmfebfcoedkaa
set_option linter.unusedVariables false
set_option linter.unusedSimpArgs false

structure Pr where
  base : Int
  mark : Int
  whole : Int
instance : Inhabited Pr := ⟨⟨0, 0, 0⟩⟩
/-- a row: a mark, letters, and what they are with it: as bytes, and as numbers -/
structure Rw where
  mark : Int
  bare : ByteArray
  whole : ByteArray
  bs : List Int
  ws : List Int
def rowsL : List Rw := [
  ⟨768, ⟨#[65, 69, 73, 79, 85, 97, 101, 105, 111, 117]⟩, ⟨#[195, 128, 195, 136, 195, 140, 195, 146, 195, 153, 195, 160, 195, 168, 195, 172, 195, 178, 195, 185]⟩, [65, 69, 73, 79, 85, 97, 101, 105, 111, 117], [192, 200, 204, 210, 217, 224, 232, 236, 242, 249]⟩,
  ⟨769, ⟨#[65, 69, 73, 79, 85, 89, 97, 101, 105, 111, 117, 121]⟩, ⟨#[195, 129, 195, 137, 195, 141, 195, 147, 195, 154, 195, 157, 195, 161, 195, 169, 195, 173, 195, 179, 195, 186, 195, 189]⟩, [65, 69, 73, 79, 85, 89, 97, 101, 105, 111, 117, 121], [193, 201, 205, 211, 218, 221, 225, 233, 237, 243, 250, 253]⟩,
  ⟨770, ⟨#[65, 69, 73, 79, 85, 97, 101, 105, 111, 117]⟩, ⟨#[195, 130, 195, 138, 195, 142, 195, 148, 195, 155, 195, 162, 195, 170, 195, 174, 195, 180, 195, 187]⟩, [65, 69, 73, 79, 85, 97, 101, 105, 111, 117], [194, 202, 206, 212, 219, 226, 234, 238, 244, 251]⟩,
  ⟨771, ⟨#[65, 78, 79, 97, 110, 111]⟩, ⟨#[195, 131, 195, 145, 195, 149, 195, 163, 195, 177, 195, 181]⟩, [65, 78, 79, 97, 110, 111], [195, 209, 213, 227, 241, 245]⟩,
  ⟨776, ⟨#[65, 69, 73, 79, 85, 97, 101, 105, 111, 117, 121]⟩, ⟨#[195, 132, 195, 139, 195, 143, 195, 150, 195, 156, 195, 164, 195, 171, 195, 175, 195, 182, 195, 188, 195, 191]⟩, [65, 69, 73, 79, 85, 97, 101, 105, 111, 117, 121], [196, 203, 207, 214, 220, 228, 235, 239, 246, 252, 255]⟩,
  ⟨778, ⟨#[65, 97]⟩, ⟨#[195, 133, 195, 165]⟩, [65, 97], [197, 229]⟩,
  ⟨780, ⟨#[67, 83, 90, 99, 115, 122]⟩, ⟨#[196, 140, 197, 160, 197, 189, 196, 141, 197, 161, 197, 190]⟩, [67, 83, 90, 99, 115, 122], [268, 352, 381, 269, 353, 382]⟩,
  ⟨807, ⟨#[67, 83, 99, 115]⟩, ⟨#[195, 135, 197, 158, 195, 167, 197, 159]⟩, [67, 83, 99, 115], [199, 350, 231, 351]⟩,
  ⟨808, ⟨#[65, 69, 97, 101]⟩, ⟨#[196, 132, 196, 152, 196, 133, 196, 153]⟩, [65, 69, 97, 101], [260, 280, 261, 281]⟩,
  ⟨803, ⟨#[65, 69, 79, 97, 101, 111]⟩, ⟨#[225, 186, 160, 225, 186, 184, 225, 187, 140, 225, 186, 161, 225, 186, 185, 225, 187, 141]⟩, [65, 69, 79, 97, 101, 111], [7840, 7864, 7884, 7841, 7865, 7885]⟩,
  ⟨770, ⟨#[225, 186, 161, 225, 186, 185, 225, 187, 141]⟩, ⟨#[225, 186, 173, 225, 187, 135, 225, 187, 153]⟩, [7841, 7865, 7885], [7853, 7879, 7897]⟩]
def tableL : List Int := [
  65, 768, 192, 69, 768, 200, 73, 768, 204, 79, 768, 210, 85, 768, 217, 97, 768, 224, 101, 768, 232, 105, 768, 236, 111, 768, 242, 117, 768, 249,
  65, 769, 193, 69, 769, 201, 73, 769, 205, 79, 769, 211, 85, 769, 218, 89, 769, 221, 97, 769, 225, 101, 769, 233, 105, 769, 237, 111, 769, 243,
  117, 769, 250, 121, 769, 253, 65, 770, 194, 69, 770, 202, 73, 770, 206, 79, 770, 212, 85, 770, 219, 97, 770, 226, 101, 770, 234, 105, 770, 238,
  111, 770, 244, 117, 770, 251, 65, 771, 195, 78, 771, 209, 79, 771, 213, 97, 771, 227, 110, 771, 241, 111, 771, 245, 65, 776, 196, 69, 776, 203,
  73, 776, 207, 79, 776, 214, 85, 776, 220, 97, 776, 228, 101, 776, 235, 105, 776, 239, 111, 776, 246, 117, 776, 252, 121, 776, 255, 65, 778, 197,
  97, 778, 229, 67, 780, 268, 83, 780, 352, 90, 780, 381, 99, 780, 269, 115, 780, 353, 122, 780, 382, 67, 807, 199, 83, 807, 350, 99, 807, 231,
  115, 807, 351, 65, 808, 260, 69, 808, 280, 97, 808, 261, 101, 808, 281, 65, 803, 7840, 69, 803, 7864, 79, 803, 7884, 97, 803, 7841, 101, 803, 7865,
  111, 803, 7885, 7841, 770, 7853, 7865, 770, 7879, 7885, 770, 7897]
def pairsOf : List Int → List Pr
  | a :: b :: c :: r => ⟨a, b, c⟩ :: pairsOf r
  | _ => []
def pairsL : List Pr := pairsOf tableL
def pairsRow (x : Rw) : List Pr := List.zipWith (fun a c => ⟨a, x.mark, c⟩) x.bs x.ws

/-- a row is as its bytes say -/
def GoodRw (x : Rw) : Prop := i32 x.mark ∧ Conv.runesFrom x.bare x.bare.size 0 #[] = (x.bs.map (Value.int .i32)).toArray ∧ Conv.runesFrom x.whole x.whole.size 0 #[] = (x.ws.map (Value.int .i32)).toArray ∧
  x.bs.length = x.ws.length ∧ x.ws.length ≤ 12 ∧ (∀ r ∈ x.bs, i32 r) ∧ ∀ r ∈ x.ws, i32 r
def lowB (l : List Int) : Bool := l.all fun r => decide (0 ≤ r) && decide (r ≤ 10000)
theorem low_i32 {l : List Int} (h : lowB l = true) : ∀ r ∈ l, i32 r := fun r hr => by
  have := List.all_eq_true.1 h r hr
  simp at this
  exact ⟨by omega, by omega⟩
theorem goodRw_of {x : Rw} (h1 : Conv.runesFrom x.bare x.bare.size 0 #[] = (x.bs.map (Value.int .i32)).toArray) (h2 : Conv.runesFrom x.whole x.whole.size 0 #[] = (x.ws.map (Value.int .i32)).toArray)
    (h3 : (lowB [x.mark] && lowB x.bs && lowB x.ws && (x.bs.length == x.ws.length) && decide (x.ws.length ≤ 12)) = true) : GoodRw x := by
  simp only [Bool.and_eq_true, beq_iff_eq, decide_eq_true_eq] at h3
  exact ⟨low_i32 h3.1.1.1.1 _ (by simp), h1, h2, h3.1.2, h3.2, low_i32 h3.1.1.1.2, low_i32 h3.1.1.2⟩
theorem rows_good : ∀ x ∈ rowsL, GoodRw x := by
  intro x hx
  simp only [rowsL, List.mem_cons, List.not_mem_nil, or_false] at hx
  rcases hx with rfl | rfl | rfl | rfl | rfl | rfl | rfl | rfl | rfl | rfl | rfl <;> exact goodRw_of (by kernel_rfl) (by kernel_rfl) (by kernel_rfl)
theorem rows_pairs : rowsL.flatMap pairsRow = pairsL := by kernel_rfl
theorem rows_len : rowsL.length = 11 := rfl
theorem pairs_len : pairsL.length = 74 := by kernel_rfl
theorem table_len : tableL.length = 222 := by kernel_rfl

/-! ### what the table tells -/
def fw (r : Int) : Option Pr := pairsL.find? fun p => p.whole == r
def fj (a b : Int) : Option Pr := pairsL.find? fun p => p.base == a && p.mark == b
/-- a letter taken apart, d steps far -/
def fullD : Nat → Int → List Int
  | 0, r => [r]
  | d + 1, r => match fw r with | none => [r] | some p => fullD d p.base ++ [p.mark]
/-- d steps are enough -/
def lvl : Nat → Int → Bool
  | 0, r => (fw r).isNone
  | d + 1, r => match fw r with | none => true | some p => lvl d p.base
theorem fw_mem {r : Int} {p : Pr} (h : fw r = some p) : p ∈ pairsL ∧ p.whole = r := by
  have h1 := List.mem_of_find?_eq_some h
  have h2 := List.find?_some h
  simp at h2
  exact ⟨h1, h2⟩
theorem fj_mem {a b : Int} {p : Pr} (h : fj a b = some p) : p ∈ pairsL ∧ p.base = a ∧ p.mark = b := by
  have h1 := List.mem_of_find?_eq_some h
  have h2 := List.find?_some h
  simp at h2
  exact ⟨h1, h2⟩
theorem lvl_pairs : (pairsL.all fun p => lvl 1 p.base) = true := by kernel_rfl
theorem lvl_two (r : Int) : lvl 2 r = true := by
  cases h : fw r with
  | none => simp [lvl, h]
  | some p =>
    have := List.all_eq_true.1 lvl_pairs p (fw_mem h).1
    simp only [lvl, h]
    exact this
def lowPr : Bool := pairsL.all fun p => lowB [p.base, p.mark, p.whole]
theorem lowPr_true : lowPr = true := by kernel_rfl
theorem pairs_i32 {p : Pr} (h : p ∈ pairsL) : i32 p.base ∧ i32 p.mark ∧ i32 p.whole := by
  have := List.all_eq_true.1 lowPr_true p h
  have h2 := low_i32 this
  exact ⟨h2 _ (by simp), h2 _ (by simp), h2 _ (by simp)⟩
theorem pairs_nn {p : Pr} (h : p ∈ pairsL) : 0 ≤ p.whole := by
  have := List.all_eq_true.1 lowPr_true p h
  have := List.all_eq_true.1 this p.whole (by simp)
  simp at this
  exact this.1

/-! ### no two alike -/
def apartB (f : Pr → Pr → Bool) : List Pr → Bool
  | [] => true
  | p :: l => (l.all fun q => !f p q) && apartB f l
theorem apart_pw {f : Pr → Pr → Bool} : ∀ {l : List Pr}, apartB f l = true → l.Pairwise fun p q => f p q = false
  | [], _ => .nil
  | p :: l, h => by
    simp only [apartB, Bool.and_eq_true] at h
    refine .cons (fun q hq => ?_) (apart_pw h.2)
    have := List.all_eq_true.1 h.1 q hq
    simpa using this
theorem wholes_apart : pairsL.Pairwise fun p q => (p.whole == q.whole) = false := apart_pw (by kernel_rfl)
theorem twos_apart : pairsL.Pairwise fun p q => (p.base == q.base && p.mark == q.mark) = false := apart_pw (by kernel_rfl)
theorem whole_uniq {p q : Pr} (hp : p ∈ pairsL) (hq : q ∈ pairsL) (h : p.whole = q.whole) : p = q := by
  obtain ⟨i, hi, rfl⟩ := List.getElem_of_mem hp
  obtain ⟨j, hj, rfl⟩ := List.getElem_of_mem hq
  rcases Nat.lt_trichotomy i j with c | c | c
  · have := List.pairwise_iff_getElem.1 wholes_apart i j hi hj c
    simp [h] at this
  · subst c; rfl
  · have := List.pairwise_iff_getElem.1 wholes_apart j i hj hi c
    simp [h] at this
theorem two_uniq {p q : Pr} (hp : p ∈ pairsL) (hq : q ∈ pairsL) (h : p.base = q.base) (h' : p.mark = q.mark) : p = q := by
  obtain ⟨i, hi, rfl⟩ := List.getElem_of_mem hp
  obtain ⟨j, hj, rfl⟩ := List.getElem_of_mem hq
  rcases Nat.lt_trichotomy i j with c | c | c
  · have := List.pairwise_iff_getElem.1 twos_apart i j hi hj c
    simp [h, h'] at this
  · subst c; rfl
  · have := List.pairwise_iff_getElem.1 twos_apart j i hj hi c
    simp [h, h'] at this
theorem fw_of {p : Pr} (hp : p ∈ pairsL) : fw p.whole = some p := by
  cases h : fw p.whole with
  | none =>
    have := List.find?_eq_none.1 h p hp
    simp at this
  | some q => rw [whole_uniq (fw_mem h).1 hp (fw_mem h).2]
theorem fj_of {p : Pr} (hp : p ∈ pairsL) : fj p.base p.mark = some p := by
  cases h : fj p.base p.mark with
  | none =>
    have := List.find?_eq_none.1 h p hp
    simp at this
  | some q => rw [two_uniq (fj_mem h).1 hp (fj_mem h).2.1 (fj_mem h).2.2]

end Go.Proofs.Ytbcmfebfcoedkaa
