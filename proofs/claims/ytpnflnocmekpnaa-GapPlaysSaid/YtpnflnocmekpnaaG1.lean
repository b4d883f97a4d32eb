/- The buffer of package gap: words. No program in sight, but the types' numbers. -/
import Derived.Test.YtpnflnocmekpnaaKit
import Derived.Test.YtpnflnocmekpnaaCells
import Derived.Laws.CopyOwn
namespace Go.Proofs.Ytpnflnocmekpnaa
open Go.RowKit
set_option linter.unusedVariables false
set_option linter.unusedSimpArgs false

def cellsOf (L : List Int) : List Value := L.map (Value.int .i32)
theorem cellsOf_len (L : List Int) : (cellsOf L).length = L.length := by simp [cellsOf]
theorem cellsOf_get {L : List Int} {j : Nat} {x : Int} (h : L[j]? = some x) : (cellsOf L)[j]? = some (.int .i32 x) := by simp [cellsOf, h]

/-- a buffer's two blocks -/
structure BufB (w : World) (pb ab : Nat) (L : List Int) (fr to : Nat) : Prop where
  hp : w.heap[pb]? = some (.cells #[.slice (some ⟨ab, 0, none⟩) L.length L.length, .int .i64 (fr : Nat), .int .i64 (to : Nat)] 43 (0, 0))
  ha : w.heap[ab]? = some (.cells (cellsOf L).toArray 21 (0, 0))
  ok : ∀ x ∈ L, i32 x
  le : fr ≤ to
  le' : to ≤ L.length
  max : L.length ≤ 12000

section
variable {w w' : World} {pb ab : Nat} {L : List Int} {fr to : Nat}
theorem BufB.ne (h : BufB w pb ab L fr to) : pb ≠ ab := fun e => by
  have h1 := h.hp; have h2 := h.ha
  rw [e, h2] at h1
  simp at h1
theorem BufB.ltp (h : BufB w pb ab L fr to) : pb < w.heap.size := (Array.getElem?_eq_some_iff.1 h.hp).1
theorem BufB.lta (h : BufB w pb ab L fr to) : ab < w.heap.size := (Array.getElem?_eq_some_iff.1 h.ha).1
theorem BufB.c0 (h : BufB w pb ab L fr to) : w.cell? ⟨pb, 0, none⟩ = some (.slice (some ⟨ab, 0, none⟩) L.length L.length) := by rw [cell_of_row _ _ _ _ _ _ h.hp]; rfl
theorem BufB.c1 (h : BufB w pb ab L fr to) : w.cell? ⟨pb, 1, none⟩ = some (.int .i64 (fr : Nat)) := by rw [cell_of_row _ _ _ _ _ _ h.hp]; rfl
theorem BufB.c2 (h : BufB w pb ab L fr to) : w.cell? ⟨pb, 2, none⟩ = some (.int .i64 (to : Nat)) := by rw [cell_of_row _ _ _ _ _ _ h.hp]; rfl
theorem BufB.fp (h : BufB w pb ab L fr to) (i : Nat) : w.frozen? ⟨pb, i, none⟩ = false := by simp [World.frozen?, h.hp]
theorem BufB.fa (h : BufB w pb ab L fr to) (i : Nat) : w.frozen? ⟨ab, i, none⟩ = false := by simp [World.frozen?, h.ha]
theorem BufB.ca (h : BufB w pb ab L fr to) {j : Nat} {x : Int} (hx : L[j]? = some x) : w.cell? ⟨ab, j, none⟩ = some (.int .i32 x) := by
  rw [cell_of_row _ _ _ _ _ _ h.ha]; simpa using cellsOf_get hx
theorem BufB.sl (h : BufB w pb ab L fr to) : Runes w (some ⟨ab, 0, none⟩) L.length L.length L :=
  ⟨rfl, Nat.le_refl _, by have := h.max; unfold maxLen; omega, fun k x hx => ⟨ab, 0, _, rfl, trivial, rfl, ⟨rfl, h.ok x (List.mem_of_getElem? hx)⟩, fun j u hu => by
    match j, hu with
    | 0, hu => simp at hu; subst hu; simpa using h.ca hx⟩⟩
theorem BufB.keep (h : BufB w pb ab L fr to) (h1 : w'.heap[pb]? = w.heap[pb]?) (h2 : w'.heap[ab]? = w.heap[ab]?) : BufB w' pb ab L fr to := ⟨h1.trans h.hp, h2.trans h.ha, h.ok, h.le, h.le', h.max⟩
theorem BufB.ext (h : BufB w pb ab L fr to) (e : Ext w w') : BufB w' pb ab L fr to := h.keep (e.block h.ltp) (e.block h.lta)
theorem BufB.setFr (h : BufB w pb ab L fr to) {f : Nat} (hf : f ≤ to) : BufB (w.setCell ⟨pb, 1, none⟩ (.int .i64 (f : Nat))) pb ab L f to := by
  have e := setCell_eq_setRow w pb 1 _ _ (0, 0) (.int .i64 (f : Nat)) h.hp
  refine ⟨?_, ?_, h.ok, hf, h.le', h.max⟩
  · rw [e, setRow_heap w pb _ _ _ _ h.hp]; simp
  · rw [e, setRow_other w pb ab _ (Ne.symm h.ne)]; exact h.ha
theorem BufB.setTo (h : BufB w pb ab L fr to) {t : Nat} (hf : fr ≤ t) (ht : t ≤ L.length) : BufB (w.setCell ⟨pb, 2, none⟩ (.int .i64 (t : Nat))) pb ab L fr t := by
  have e := setCell_eq_setRow w pb 2 _ _ (0, 0) (.int .i64 (t : Nat)) h.hp
  refine ⟨?_, ?_, h.ok, hf, ht, h.max⟩
  · rw [e, setRow_heap w pb _ _ _ _ h.hp]; simp
  · rw [e, setRow_other w pb ab _ (Ne.symm h.ne)]; exact h.ha
theorem BufB.setBoth (h : BufB w pb ab L fr to) {f t : Nat} (hf : f ≤ t) (ht : t ≤ L.length) : BufB ((w.setCell ⟨pb, 1, none⟩ (.int .i64 (f : Nat))).setCell ⟨pb, 2, none⟩ (.int .i64 (t : Nat))) pb ab L f t := by
  have e := setCell_eq_setRow w pb 1 _ _ (0, 0) (.int .i64 (f : Nat)) h.hp
  have h1 : (w.setCell ⟨pb, 1, none⟩ (.int .i64 (f : Nat))).heap[pb]? = some (.cells #[.slice (some ⟨ab, 0, none⟩) L.length L.length, .int .i64 (f : Nat), .int .i64 (to : Nat)] 43 (0, 0)) := by
    rw [e, setRow_heap w pb _ _ _ _ h.hp]; simp
  have h2 : (w.setCell ⟨pb, 1, none⟩ (.int .i64 (f : Nat))).heap[ab]? = some (.cells (cellsOf L).toArray 21 (0, 0)) := by
    rw [e, setRow_other w pb ab _ (Ne.symm h.ne)]; exact h.ha
  generalize w.setCell ⟨pb, 1, none⟩ (.int .i64 (f : Nat)) = w' at *
  have e2 := setCell_eq_setRow w' pb 2 _ _ (0, 0) (.int .i64 (t : Nat)) h1
  refine ⟨?_, ?_, h.ok, hf, ht, h.max⟩
  · rw [e2, setRow_heap w' pb _ _ _ _ h1]; simp
  · rw [e2, setRow_other w' pb ab _ (Ne.symm h.ne)]; exact h2
theorem cellsOf_set (L : List Int) (j : Nat) (x : Int) : cellsOf (L.set j x) = (cellsOf L).set j (.int .i32 x) := by simp [cellsOf, List.map_set]
theorem BufB.setAt (h : BufB w pb ab L fr to) (j : Nat) {x : Int} (hx : i32 x) : BufB (w.setCell ⟨ab, j, none⟩ (.int .i32 x)) pb ab (L.set j x) fr to := by
  have e := setCell_eq_setRow w ab j _ _ (0, 0) (.int .i32 x) h.ha
  refine ⟨?_, ?_, ?_, h.le, by simpa using h.le', by simpa using h.max⟩
  · rw [e, setRow_other w ab pb _ h.ne, h.hp]; simp
  · rw [e, setRow_heap w ab _ _ _ _ h.ha, cellsOf_set]; simp
  · intro y hy
    rcases List.mem_or_eq_of_mem_set hy with hy | hy
    · exact h.ok y hy
    · rw [hy]; exact hx
end

/-- a buffer with a text and a cursor -/
def Buf (base : Nat) (w : World) (pb : Nat) (t : List Int) (at_ : Nat) : Prop :=
  ∃ ab L to, BufB w pb ab L at_ to ∧ base ≤ pb ∧ base ≤ ab ∧ t = L.take at_ ++ L.drop to

theorem Buf.len {base : Nat} {w : World} {pb : Nat} {t : List Int} {at_ ab to : Nat} {L : List Int} (h : BufB w pb ab L at_ to) (e : t = L.take at_ ++ L.drop to) : t.length + (to - at_) = L.length ∧ at_ ≤ t.length := by
  have h1 := h.le; have h2 := h.le'
  rw [e]
  simp only [List.length_append, List.length_take, List.length_drop]
  omega

end Go.Proofs.Ytpnflnocmekpnaa
