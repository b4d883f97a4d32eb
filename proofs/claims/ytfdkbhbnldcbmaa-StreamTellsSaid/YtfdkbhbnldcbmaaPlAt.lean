/- A player of pieces in memory. No program in sight. -/
import Derived.Test.YtfdkbhbnldcbmaaPl12
import Derived.Test.YtfdkbhbnldcbmaaCells
namespace Go.Proofs.Ytfdkbhbnldcbmaa
open Go.RowKit
set_option linter.unusedVariables false
set_option linter.unusedSimpArgs false

/-- but for one block, w' is w with more behind it -/
def Trn (b : Nat) (w w' : World) : Prop := w.grownBy w' (some b)
theorem Trn.refl (b : Nat) (w : World) : Trn b w w := ⟨rfl, rfl, rfl, Nat.le_refl _, fun _ _ _ => rfl⟩
theorem Trn.trans {b : Nat} {a w w' : World} (h : Trn b a w) (k : Trn b w w') : Trn b a w' :=
  ⟨k.os.trans h.os, k.tape.trans h.tape, k.output.trans h.output, Nat.le_trans h.size k.size, fun i hi hr => (k.block i (Nat.lt_of_lt_of_le hi h.size) hr).trans (h.block i hi hr)⟩
theorem Trn.of {w w' : World} (b : Nat) (e : Ext w w') : Trn b w w' := ⟨e.below.os, e.below.tape, e.below.output, e.size, fun i hi _ => e.block hi⟩
theorem Trn.ext {b : Nat} {a w w' : World} (h : Trn b a w) (e : Ext w w') : Trn b a w' := h.trans (Trn.of b e)
theorem Trn.set {b : Nat} {a w : World} (h : Trn b a w) (o : Nat) (u : Value) : Trn b a (w.setCell ⟨b, o, none⟩ u) :=
  h.trans ⟨rfl, rfl, rfl, by simp [World.setCell], fun k hk hr => Below.heap_setCell _ _ _ _ (by intro e; exact hr (by rw [e]))⟩
theorem Trn.run {b : Nat} {a w w' : World} (h : Ext a w) (hb : a.heap.size ≤ b) (k : Trn b w w') : Ext a w' := h.grown k (fun i hi => by cases hi; exact hb)
theorem Trn.agree {b : Nat} {w w' : World} (k : Trn b w w') : Agree (fun i => i ≠ b) w w' := grown_agree k (fun g hg h => h (Option.some.inj hg).symm)

/-- The seven cells of a player: rules, text, place, how much is told, came, steps, how far it looks ahead. -/
structure PlAt (b : Nat) (tk : Nat → Prop) (w : World) (A : Option Addr) (n c : Nat) (X : Option Addr) (m d : Nat) (t : List Int) (a td cm st ah : Nat) : Prop where
  text : SlR rRune 1 (fun k => k ≠ b ∧ tk k) w X m d t
  c0 : w.cell? ⟨b, 0, none⟩ = some (.slice A n c)
  c1 : w.cell? ⟨b, 1, none⟩ = some (.slice X m d)
  c2 : w.cell? ⟨b, 2, none⟩ = some (.int .i64 a)
  c3 : w.cell? ⟨b, 3, none⟩ = some (.int .i64 td)
  c4 : w.cell? ⟨b, 4, none⟩ = some (.int .i64 cm)
  c5 : w.cell? ⟨b, 5, none⟩ = some (.int .i64 st)
  c6 : w.cell? ⟨b, 6, none⟩ = some (.int .i64 ah)
  wr : Wr w b

section
variable {b : Nat} {tk tk' : Nat → Prop} {w w' : World} {A : Option Addr} {n c : Nat} {X : Option Addr} {m d : Nat} {t : List Int} {a td cm st ah : Nat}
theorem PlAt.ext (h : PlAt b tk w A n c X m d t a td cm st ah) (e : Ext w w') : PlAt b tk w' A n c X m d t a td cm st ah :=
  ⟨h.text.ext (keep_rune _) e, e.cell h.c0, e.cell h.c1, e.cell h.c2, e.cell h.c3, e.cell h.c4, e.cell h.c5, e.cell h.c6, h.wr.ext e⟩
theorem PlAt.mono (h : PlAt b tk w A n c X m d t a td cm st ah) (hk : ∀ k, tk k → tk' k) : PlAt b tk' w A n c X m d t a td cm st ah :=
  ⟨h.text.mono (fun _ _ h => h) (fun k h => ⟨h.1, hk k h.2⟩), h.c0, h.c1, h.c2, h.c3, h.c4, h.c5, h.c6, h.wr⟩
theorem PlAt.runes (h : PlAt b tk w A n c X m d t a td cm st ah) : Runes w X m d t := h.text.mono (fun _ _ h => h) (fun _ _ => trivial)
theorem PlAt.setAt (h : PlAt b tk w A n c X m d t a td cm st ah) {x : Int} {a' : Nat} (hx : x = (a' : Nat)) : PlAt b tk (w.setCell ⟨b, 2, none⟩ (.int .i64 x)) A n c X m d t a' td cm st ah :=
  ⟨h.text.keep (keep_rune _) ((agree_set _ _ _ _).mono fun _ h => h.1), set_other h.c0 (by omega), set_other h.c1 (by omega), hx ▸ set_same h.c2, set_other h.c3 (by omega), set_other h.c4 (by omega), set_other h.c5 (by omega), set_other h.c6 (by omega), h.wr.set _ _⟩
theorem PlAt.setTold (h : PlAt b tk w A n c X m d t a td cm st ah) {x : Int} {a' : Nat} (hx : x = (a' : Nat)) : PlAt b tk (w.setCell ⟨b, 3, none⟩ (.int .i64 x)) A n c X m d t a a' cm st ah :=
  ⟨h.text.keep (keep_rune _) ((agree_set _ _ _ _).mono fun _ h => h.1), set_other h.c0 (by omega), set_other h.c1 (by omega), set_other h.c2 (by omega), hx ▸ set_same h.c3, set_other h.c4 (by omega), set_other h.c5 (by omega), set_other h.c6 (by omega), h.wr.set _ _⟩
theorem PlAt.setCame (h : PlAt b tk w A n c X m d t a td cm st ah) {x : Int} {a' : Nat} (hx : x = (a' : Nat)) : PlAt b tk (w.setCell ⟨b, 4, none⟩ (.int .i64 x)) A n c X m d t a td a' st ah :=
  ⟨h.text.keep (keep_rune _) ((agree_set _ _ _ _).mono fun _ h => h.1), set_other h.c0 (by omega), set_other h.c1 (by omega), set_other h.c2 (by omega), set_other h.c3 (by omega), hx ▸ set_same h.c4, set_other h.c5 (by omega), set_other h.c6 (by omega), h.wr.set _ _⟩
theorem PlAt.setSteps (h : PlAt b tk w A n c X m d t a td cm st ah) {x : Int} {a' : Nat} (hx : x = (a' : Nat)) : PlAt b tk (w.setCell ⟨b, 5, none⟩ (.int .i64 x)) A n c X m d t a td cm a' ah :=
  ⟨h.text.keep (keep_rune _) ((agree_set _ _ _ _).mono fun _ h => h.1), set_other h.c0 (by omega), set_other h.c1 (by omega), set_other h.c2 (by omega), set_other h.c3 (by omega), set_other h.c4 (by omega), hx ▸ set_same h.c5, set_other h.c6 (by omega), h.wr.set _ _⟩
theorem PlAt.setText (h : PlAt b tk w A n c X m d t a td cm st ah) {X' : Option Addr} {m' d' : Nat} {t' : List Int} (hs : SlR rRune 1 (fun k => k ≠ b ∧ tk' k) w X' m' d' t') : PlAt b tk' (w.setCell ⟨b, 1, none⟩ (.slice X' m' d')) A n c X' m' d' t' a td cm st ah :=
  ⟨hs.keep (keep_rune _) ((agree_set _ _ _ _).mono fun _ h => h.1), set_other h.c0 (by omega), set_same h.c1, set_other h.c2 (by omega), set_other h.c3 (by omega), set_other h.c4 (by omega), set_other h.c5 (by omega), set_other h.c6 (by omega), h.wr.set _ _⟩
theorem PlAt.here (h : PlAt b tk w A n c X m d t a td cm st ah) : PlAt b (fun k => tk k ∧ k < w.heap.size) w A n c X m d t a td cm st ah :=
  ⟨(SlR.lt (by omega) h.text).mono (fun _ _ h => h) (fun k h => ⟨h.1.1, h.1.2, h.2⟩), h.c0, h.c1, h.c2, h.c3, h.c4, h.c5, h.c6, h.wr⟩
/-- a row elsewhere grows -/
theorem PlAt.app {row : Option Nat} (h : PlAt b tk w A n c X m d t a td cm st ah) (hg : w.grownBy w' row) (hr : row ≠ some b) (ht : ∀ g, row = some g → ¬ tk g) : PlAt b tk w' A n c X m d t a td cm st ah := by
  have hc : ∀ {o : Nat} {u : Value}, w.cell? ⟨b, o, none⟩ = some u → w'.cell? ⟨b, o, none⟩ = some u := fun {o u} hu => (hg.cell_far ⟨b, o, none⟩ h.wr.1 (fun e => hr e.symm)).trans hu
  exact ⟨h.text.keep (keep_rune _) (grown_agree hg fun g e hk => ht g e hk.2), hc h.c0, hc h.c1, hc h.c2, hc h.c3, hc h.c4, hc h.c5, hc h.c6,
    Nat.lt_of_lt_of_le h.wr.1 hg.size, fun i => (hg.frozen_far ⟨b, i, none⟩ h.wr.1 (fun e => hr e.symm)).trans (h.wr.2 i)⟩
theorem Trn.app {w0 : World} {row : Option Nat} (k : Trn b w0 w) (hg : w.grownBy w' row) (hr : ∀ g, row = some g → w0.heap.size ≤ g) : Trn b w0 w' :=
  let k' : w0.grownBy w (some b) := k
  ⟨hg.os.trans k'.os, hg.tape.trans k'.tape, hg.output.trans k'.output, Nat.le_trans k'.size hg.size, fun i hi hn => (hg.block i (Nat.lt_of_lt_of_le hi k'.size) (fun e => by have := hr i e.symm; omega)).trans (k'.block i hi hn)⟩
end

end Go.Proofs.Ytfdkbhbnldcbmaa
