/- Walks: the tables of letters. -/
import Derived.Test.YtbcmfebfcoedkaaZ12
import Derived.Test.YtbcmfebfcoedkaaZ9
import Derived.Test.YtbcmfebfcoedkaaCut
import Derived.Great.BuildSlice
import Derived.Laws.IdiomStrings
namespace Go.Proofs.Ytbcmfebfcoedkaa
open Go.RowKit
set_option linter.unusedVariables false
set_option linter.unusedSimpArgs false

def rPair : World → List Value → Pr → Prop := fun _ vs p => vs = [.int .i32 p.base, .int .i32 p.mark, .int .i32 p.whole]
def rRw : World → List Value → Rw → Prop := fun _ vs x => vs = [.int .i32 x.mark, .string x.bare, .string x.whole]
theorem keep_pair (ok : Nat → Prop) : Keep rPair ok := fun _ _ _ _ _ h => h
theorem keep_rw (ok : Nat → Prop) : Keep rRw ok := fun _ _ _ _ _ h => h
theorem one_pair : One rPair := fun w vs x h u hu => by
  rw [h] at hu; simp at hu; rcases hu with rfl | rfl | rfl <;> rfl
abbrev Pairs (w : World) (A : Option Addr) (n c : Nat) (l : List Pr) : Prop := SlR rPair 3 top w A n c l
theorem T_pair : ElemT Try.prog 23 27 3 12 := elemT Try.underlying23 (z := .agg #[.int .i32 0, .int .i32 0, .int .i32 0]) (by kernel_rfl) rfl (by omega)

section
variable {w : World} {A : Option Addr} {n c k : Nat} {ok : Nat → Prop}
theorem SlR.pair {l : List Pr} {x : Pr} (h : SlR rPair 3 ok w A n c l) (hx : l[k]? = some x) :
    ∃ b off, A = some ⟨b, off, none⟩ ∧ (b < w.heap.size ∧ b ≠ w.heap.size) ∧ w.cell? ⟨b, off + k * 3, none⟩ = some (.int .i32 x.base) ∧ w.cell? ⟨b, off + k * 3 + 1, none⟩ = some (.int .i32 x.mark) ∧ w.cell? ⟨b, off + k * 3 + 2, none⟩ = some (.int .i32 x.whole) := by
  obtain ⟨b, off, vs, e, ho, _, hv, hc⟩ := h.at_ k x hx
  have hv' : vs = _ := hv
  subst hv'
  have h0 := hc 0 _ rfl
  have hlt : b < w.heap.size := World.block_lt_of_cell? w _ h0
  exact ⟨b, off, e, ⟨hlt, by omega⟩, by simpa using h0, by simpa using hc 1 _ rfl, by simpa using hc 2 _ rfl⟩
theorem SlR.rw {l : List Rw} {x : Rw} (h : SlR rRw 3 ok w A n c l) (hx : l[k]? = some x) :
    ∃ b off, A = some ⟨b, off, none⟩ ∧ (b < w.heap.size ∧ b ≠ w.heap.size) ∧ w.cell? ⟨b, off + k * 3, none⟩ = some (.int .i32 x.mark) ∧ w.cell? ⟨b, off + k * 3 + 1, none⟩ = some (.string x.bare) ∧ w.cell? ⟨b, off + k * 3 + 2, none⟩ = some (.string x.whole) := by
  obtain ⟨b, off, vs, e, ho, _, hv, hc⟩ := h.at_ k x hx
  have hv' : vs = _ := hv
  subst hv'
  have h0 := hc 0 _ rfl
  have hlt : b < w.heap.size := World.block_lt_of_cell? w _ h0
  exact ⟨b, off, e, ⟨hlt, by omega⟩, by simpa using h0, by simpa using hc 1 _ rfl, by simpa using hc 2 _ rfl⟩
end

def rowCells : List Value := rowsL.flatMap fun x => [.int .i32 x.mark, .string x.bare, .string x.whole]
theorem rows_new (w : World) (t : TypeId) : SlR rRw 3 top (w.alloc (.cells rowCells.toArray t)) (some ⟨w.heap.size, 0, none⟩) 11 11 rowsL := by
  refine SlR.fresh rows_len (by unfold maxLen; omega) fun k x hx => ?_
  refine ⟨[.int .i32 x.mark, .string x.bare, .string x.whole], rfl, rfl, fun j u hu => ?_⟩
  have hk : k < 11 := by have := lt_of_get hx; rw [rows_len] at this; exact this
  match k, hk with
  | 0, _ | 1, _ | 2, _ | 3, _ | 4, _ | 5, _ | 6, _ | 7, _ | 8, _ | 9, _ | 10, _ =>
    have hx' := Option.some.inj hx
    subst hx'
    match j, hu with
    | 0, hu => exact hu
    | 1, hu => exact hu
    | 2, hu => exact hu

set_option maxRecDepth 1000000 in
set_option maxHeartbeats 1600000 in
theorem rows_any (w : World) : Calls Try.prog 23 #[] w fun e w' => ∃ A c, e = .returned (.slice A 11 c) ∧ SlR rRw 3 top w' A 11 c rowsL ∧ Ext w w' := by
  have H := Lib.hid (rows_new w 51)
  have E := Lib.hid ((Ext.refl w).alloc (.cells rowCells.toArray 51))
  go_enter Try.func23, Try.ntmps23
  go_wp2
  go_ret
  exact ⟨_, _, rfl, H.out, E.out⟩

theorem table_new (w : World) (t : TypeId) : Runes (w.alloc (.cells (tableL.map (Value.int .i32)).toArray t)) (some ⟨w.heap.size, 0, none⟩) 222 222 tableL := by
  refine SlR.fresh table_len (by unfold maxLen; omega) fun k x hx => ?_
  have hb : i32 x := low_i32 (show lowB tableL = true by kernel_rfl) x (List.mem_of_getElem? hx)
  refine ⟨[.int .i32 x], rfl, ⟨rfl, hb⟩, fun j u hu => ?_⟩
  match j, hu with
  | 0, hu => simp at hu ⊢; subst hu; exact ⟨x, hx, rfl⟩

set_option maxRecDepth 1000000 in
set_option maxHeartbeats 1600000 in
theorem Table_any (w : World) : Calls Try.prog 24 #[] w fun e w' => ∃ A c, e = .returned (.slice A 222 c) ∧ Runes w' A 222 c tableL ∧ Ext w w' := by
  have H := Lib.hid (table_new w 21)
  have E := Lib.hid ((Ext.refl w).alloc (.cells (tableL.map (Value.int .i32)).toArray 21))
  go_enter Try.func24, Try.ntmps24
  go_wp2_with (refine wpList_buildFlatAt rfl 22 21 222 _ rfl .i32 tableL w.heap.size rfl _ rfl Try.underlying22 (by kernel_rfl) (by kernel_rfl) table_len.symm (by omega) (by omega) (by kernel_rfl) ?_)
  go_ret
  exact ⟨_, _, rfl, H.out, E.out⟩

end Go.Proofs.Ytbcmfebfcoedkaa
