/- Memory: a row of numbers that is turned in place, all else as it was; regions whose callees may lay blocks. No program in sight. -/
import Derived.Test.YtbcmfebfcoedkaaCells
import Derived.Test.YtbcmfebfcoedkaaZ2b
import Derived.Sort.Row
import Derived.Deep.Quiet
namespace Go.Proofs.Ytbcmfebfcoedkaa
open Go.RowKit Go.Sort
set_option linter.unusedVariables false
set_option linter.unusedSimpArgs false

/-! ### a class of worlds: those that are w with more behind it -/
structure Far (w : World) where
  out : World
  ext : Ext w out

instance (w : World) : Inhabited (Far w) := ⟨⟨w, Ext.refl w⟩⟩

theorem wp_region_far {P : Program} {id : Nat} {Q : Exit → Act → World → Prop} {a : Act} {w : World} {l : List Oper} (hm : P.follows .mixedOrders = true) (hB : Region.lexB .any l.toArray = true)
    (h : wpQuiet P l.toArray (fun w' => ∃ p : Far w, w' = p.out) (fun a' => ∀ w', (∃ p : Far w, w' = p.out) → Q .normal a' w') l a) : (Code.region id l.toArray true).wp P Q a w :=
  wp_region_quiet (C := fun w' => ∃ p : Far w, w' = p.out) hm hB ⟨⟨w.drew, (Ext.refl w).drew⟩, rfl⟩ (by simpa using h)
theorem Calls.far_of {P : Program} {f : FuncId} {args : Array Value} {w : World} {p : Far w} {v : Value}
    (h : Calls P f args p.out fun e w' => e = .returned v ∧ Ext p.out w') : Calls P f args p.out fun e w'' => e = .returned v ∧ ∃ q : Far w, w'' = q.out :=
  h.mono fun _ _ ⟨he, hx⟩ => ⟨he, ⟨_, p.ext.trans hx⟩, rfl⟩
theorem Far.cell {w : World} {a : Addr} {v : Value} (h : w.cell? a = some v) (p : Far w) : p.out.cell? a = some v := p.ext.cell h

/-! ### one store in both worlds -/
theorem ext_setBoth {a w : World} (h : Ext a w) {b o : Nat} (hb : b < a.heap.size) (v : Value) : Ext (a.setCell ⟨b, o, none⟩ v) (w.setCell ⟨b, o, none⟩ v) := by
  have h1 := Ext.below h
  rw [setCell_eq, setCell_eq]
  refine ⟨h1.os, h1.tape, h1.output, by simpa [mapBlock] using h1.size, fun k hk => ?_⟩
  have hk' : k < a.heap.size := by simpa [mapBlock] using hk
  simp only [mapBlock, Array.getElem?_modify]
  rw [h1.block k hk']
theorem ext_mapBoth {a w : World} (h : Ext a w) {b : Nat} (hb : b < a.heap.size) (f : Array Value → Array Value) : Ext (mapBlock a b f) (mapBlock w b f) := by
  have h1 := Ext.below h
  refine ⟨h1.os, h1.tape, h1.output, by simpa [mapBlock] using h1.size, fun k hk => ?_⟩
  have hk' : k < a.heap.size := by simpa [mapBlock] using hk
  simp only [mapBlock, Array.getElem?_modify]
  rw [h1.block k hk']

theorem toArray_get (l : List Int) (i : Nat) : l.toArray[i]! = l.getD i 0 := by
  rw [List.getD_eq_getElem?_getD]
  by_cases h : i < l.length
  · rw [getElem!_pos _ i (by simpa using h), List.getElem?_eq_getElem h]; simp
  · rw [getElem!_neg _ i (by simpa using h), List.getElem?_eq_none (by omega)]; rfl
theorem swp_toArray (l : List Int) (i j : Nat) : swp l.toArray i j = (sw l i j).toArray := by
  unfold swp sw
  rw [toArray_get, toArray_get]
  simp

/-! ### the row -/
structure SE (k : IntKind) (w0 : World) (b off : Nat) (L0 : List Int) (ok : Int → Prop) (L : List Int) (W : World) : Prop where
  base : Holds (Value.int k) w0 b off L0.toArray
  blk : b < w0.heap.size
  len : L.length = L0.length
  all : ∀ x ∈ L, ok x
  ext : Ext (putRow (Value.int k) w0 b off L.toArray) W

section
variable {k : IntKind} {w0 W : World} {b off : Nat} {L0 L : List Int} {ok : Int → Prop}
theorem size_put (l : List Int) : (putRow (Value.int k) w0 b off l.toArray).heap.size = w0.heap.size := by simp [putRow, mapBlock]
theorem SE.start (h : Holds (Value.int k) w0 b off L0.toArray) (hb : b < w0.heap.size) (ha : ∀ x ∈ L0, ok x) : SE k w0 b off L0 ok L0 w0 :=
  ⟨h, hb, rfl, ha, by rw [putRow_self _ _ _ _ _ h]; exact Ext.refl _⟩
theorem SE.more (h : SE k w0 b off L0 ok L W) {W' : World} (e : Ext W W') : SE k w0 b off L0 ok L W' := ⟨h.base, h.blk, h.len, h.all, h.ext.trans e⟩
theorem SE.lt (h : SE k w0 b off L0 ok L W) : b < W.heap.size ∧ b ≠ W.heap.size := by
  have := h.ext.size
  rw [size_put] at this
  have := h.blk
  omega
theorem SE.cell (h : SE k w0 b off L0 ok L W) {i : Nat} (hi : i < L.length) : W.cell? ⟨b, off + i, none⟩ = some (.int k (L.getD i 0)) := by
  refine h.ext.cell ?_
  have := cell?_putRow (Value.int k) w0 b off L0.toArray L.toArray h.base (by simpa using h.len) i (by simpa using hi)
  rw [this, toArray_get]
theorem SE.frz (h : SE k w0 b off L0 ok L W) {i : Nat} (hi : i < L.length) : W.frozen? ⟨b, off + i, none⟩ = false := by
  have h1 := (h.base i (by simpa using (by rw [← h.len]; exact hi))).2
  rw [h.ext.frozen (by rw [size_put]; exact h.blk), frozen?_putRow]
  exact h1
theorem SE.okAt (h : SE k w0 b off L0 ok L W) {i : Nat} (hi : i < L.length) : ok (L.getD i 0) := h.all _ (getD_mem hi)
theorem SE.swap (h : SE k w0 b off L0 ok L W) {i j : Nat} (hi : i < L.length) (hj : j < L.length) :
    SE k w0 b off L0 ok (sw L i j) (((W.setCell ⟨b, off + i, none⟩ (.int k (L.getD j 0))).setCell ⟨b, off + j, none⟩ (.int k (L.getD i 0))).drew) := by
  refine ⟨h.base, h.blk, by rw [sw_len]; exact h.len, fun x hx => h.all x (sw_mem hi hj hx), ?_⟩
  have e := putRow_swp (Value.int k) w0 b off L.toArray i j (by simpa using hi) (by simpa using hj)
  rw [toArray_get, toArray_get, swp_toArray] at e
  rw [← e]
  refine Ext.drew ?_
  refine ext_setBoth (ext_setBoth h.ext ?_ _) ?_ _
  · rw [size_put]; exact h.blk
  · simp only [World.setCell, Array.size_modify]; rw [size_put]; exact h.blk
/-- behind the first store the second place still holds something -/
theorem SE.c2 (h : SE k w0 b off L0 ok L W) {i j : Nat} (hi : i < L.length) (hj : j < L.length) (v : Value) : ∃ u, (W.setCell ⟨b, off + i, none⟩ v).cell? ⟨b, off + j, none⟩ = some u := by
  by_cases e : i = j
  · subst e; exact ⟨v, World.cell?_setCell_same _ _ _ (h.cell hi)⟩
  · exact ⟨_, (World.cell?_setCell_other _ _ _ _ (by intro e'; simp only [Addr.mk.injEq] at e'; omega)).trans (h.cell hj)⟩
end

/-- what is asked of the function that compares -/
def CmpX (P : Program) (g : Nat) (cb : Array Value) (k : IntKind) (cf : Int → Int → Int) (w0 : World) (b off : Nat) (L0 : List Int) (ok : Int → Prop) : Prop :=
  ∀ L W, SE k w0 b off L0 ok L W → ∀ x y, ok x → ok y → Calls P g (#[.int k x, .int k y] ++ cb) W fun e w' => e = .returned (.int .i64 (cf x y)) ∧ Ext W w'
def ltC (cf : Int → Int → Int) (x y : Int) : Bool := decide (cf x y < 0)

end Go.Proofs.Ytbcmfebfcoedkaa
