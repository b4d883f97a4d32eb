/- Blocks that may be written. No program in sight. -/
import Derived.Test.YtbcmfebfcoedkaaMem
namespace Go.Proofs.Ytbcmfebfcoedkaa
open Go.RowKit
set_option linter.unusedVariables false
set_option linter.unusedSimpArgs false

/-- a block that is there, and may be written -/
def Wr (w : World) (b : Nat) : Prop := b < w.heap.size ∧ ∀ i, w.frozen? ⟨b, i, none⟩ = false
theorem Wr.ext {w w' : World} {b : Nat} (h : Wr w b) (e : Ext w w') : Wr w' b := ⟨Nat.lt_of_lt_of_le h.1 e.size, fun i => (e.frozen h.1).trans (h.2 i)⟩
theorem Wr.new (w : World) (cs : Array Value) (t : TypeId) : Wr (w.alloc (.cells cs t)) w.heap.size := ⟨by simp, fun i => by simp⟩
theorem Wr.set {w : World} {b : Nat} (h : Wr w b) (a : Addr) (v : Value) : Wr (w.setCell a v) b := ⟨by have := h.1; simpa [World.setCell] using this, fun i => by rw [World.frozen?_setCell]; exact h.2 i⟩
theorem Wr.lt {w w' : World} {b : Nat} (h : Wr w b) (e : Ext w w') : b < w'.heap.size := Nat.lt_of_lt_of_le h.1 e.size
theorem ext_set {a w : World} (h : Ext a w) {b : Nat} (hb : a.heap.size ≤ b) (o : Nat) (u : Value) : Ext a (w.setCell ⟨b, o, none⟩ u) := h.setCell hb u

end Go.Proofs.Ytbcmfebfcoedkaa
