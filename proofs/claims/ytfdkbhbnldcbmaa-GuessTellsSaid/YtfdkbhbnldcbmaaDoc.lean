/- The document's play in memory. No program in sight. -/
import Derived.Test.YtfdkbhbnldcbmaaPlay
namespace Go.Proofs.Ytfdkbhbnldcbmaa
open Go.RowKit
set_option linter.unusedVariables false
set_option linter.unusedSimpArgs false

theorem OwnR.slOwn {α : Type} {R : World → List Value → α → Prop} {e : TypeId} {sz base : Nat} {w : World} {v : Value} {l : List α} (h : OwnR R e sz base w v l) :
    ∃ A c, v = .slice A l.length c ∧ SlR R sz (fun b => v.ownBlock = some b ∧ base ≤ b) w A l.length c l := by
  obtain ⟨xs, ⟨hl, h | ⟨g, cap, cur, rfl, hb, hh, h1, h2, h3, h4⟩⟩, he⟩ := h
  · obtain ⟨rfl, h⟩ := h
    rw [h]
    have : l = [] := List.eq_nil_of_length_eq_zero h
    subst this
    exact ⟨none, 0, rfl, SlR.nil _ _ _ _ _ _ (by simp [maxLen])⟩
  · refine ⟨_, _, rfl, rfl, h1, h2, fun k x hx => ?_⟩
    obtain ⟨vs, a, b, c⟩ := he.get k x hx
    refine ⟨g, 0, vs, rfl, ⟨rfl, hb⟩, a, b, fun j u hu => ?_⟩
    rw [Nat.zero_add, cell_of_row w g _ cur e (0, 0) hh]
    have hc := c j u hu
    rw [← h4, List.getElem?_take] at hc
    split at hc
    · simpa using hc
    · simp at hc

theorem Wr.block {w w' : World} {b : Nat} (h : Wr w b) (hb : w'.heap[b]? = w.heap[b]?) (hs : w.heap.size ≤ w'.heap.size) : Wr w' b :=
  ⟨Nat.lt_of_lt_of_le h.1 hs, fun i => by have := h.2 i; unfold World.frozen? at this ⊢; rw [hb]; exact this⟩

structure DocAt (e : TypeId) (K B : Nat) (w : World) (vd : Value) (D : List Int) (A : Option Addr) (n c : Nat) (R : List Int) (s p : Nat) : Prop where
  done : OwnR rRune e 1 K w vd D
  apart : vd.ownBlock ≠ some B
  rest : SlR rRune 1 (fun b => vd.ownBlock ≠ some b ∧ b ≠ B) w A n c R
  c0 : w.cell? ⟨B, 0, none⟩ = some (.slice none 0 0)
  c1 : w.cell? ⟨B, 1, none⟩ = some (.int .i64 s)
  c2 : w.cell? ⟨B, 2, none⟩ = some (.int .i64 p)
  wr : Wr w B

section
variable {e : TypeId} {K B : Nat} {w w' : World} {vd v' : Value} {D D' : List Int} {A : Option Addr} {n c : Nat} {R : List Int} {s p : Nat}
theorem DocAt.ext (h : DocAt e K B w vd D A n c R s p) (x : Ext w w') : DocAt e K B w' vd D A n c R s p :=
  ⟨h.done.ext (keep_rune bot) x, h.apart, h.rest.ext (keep_rune _) x, x.cell h.c0, x.cell h.c1, x.cell h.c2, h.wr.ext x⟩
theorem DocAt.setRow (h : DocAt e K B w vd D A n c R s p) (o : Nat) (u : Value) : OwnR rRune e 1 K (w.setCell ⟨B, o, none⟩ u) vd D ∧ SlR rRune 1 (fun b => vd.ownBlock ≠ some b ∧ b ≠ B) (w.setCell ⟨B, o, none⟩ u) A n c R :=
  ⟨h.done.keep (ok := bot) (keep_rune bot) (fun _ hb => hb.elim) (fun g hg => Below.heap_setCell _ _ _ _ (fun e => h.apart (by rw [hg, e]))), h.rest.keep (keep_rune _) ((agree_set _ _ _ _).mono fun _ hb => hb.2)⟩
theorem DocAt.step (h : DocAt e K B w vd D A n c R s p) {x : Int} (hx : x = (s + 1 : Nat)) : DocAt e K B (w.setCell ⟨B, 1, none⟩ (.int .i64 x)) vd D A n c R (s + 1) p :=
  ⟨(h.setRow _ _).1, h.apart, (h.setRow _ _).2, set_other h.c0 (by omega), hx ▸ set_same h.c1, set_other h.c2 (by omega), h.wr.set _ _⟩
theorem DocAt.puts (h : DocAt e K B w vd D A n c R s p) {x : Int} (hx : x = (p + 1 : Nat)) : DocAt e K B (w.setCell ⟨B, 2, none⟩ (.int .i64 x)) vd D A n c R s (p + 1) :=
  ⟨(h.setRow _ _).1, h.apart, (h.setRow _ _).2, set_other h.c0 (by omega), set_other h.c1 (by omega), hx ▸ set_same h.c2, h.wr.set _ _⟩
/-- what is done grows -/
theorem DocAt.grow (h : DocAt e K B w vd D A n c R s p) (hv : OwnR rRune e 1 K w' v' D') (hg : w.grownBy w' vd.ownBlock) (hat : v'.ownBlock = vd.ownBlock ∨ v'.ownBlock = some w.heap.size) : DocAt e K B w' v' D' A n c R s p := by
  have hr := (SlR.lt (by omega) h.rest).keep (w' := w') (keep_rune _) (grown_agree hg (fun g hh ok => ok.1.1 hh))
  refine ⟨hv, own_ne hat h.apart (Nat.ne_of_lt h.wr.1), hr.mono (fun _ _ h => h) (fun b hb => ⟨own_ne hat hb.1.1 (Nat.ne_of_lt hb.2), hb.1.2⟩), far_cell hg h.c0 h.apart, far_cell hg h.c1 h.apart, far_cell hg h.c2 h.apart, h.wr.block (hg.block B h.wr.1 (fun e => h.apart e.symm)) hg.size⟩
/-- what is left is another slice -/
theorem DocAt.turn (h : DocAt e K B w vd D A n c R s p) {A' : Option Addr} {n' c' : Nat} {R' : List Int} (hr : SlR rRune 1 (fun b => vd.ownBlock ≠ some b ∧ b ≠ B) w A' n' c' R') : DocAt e K B w vd D A' n' c' R' s p :=
  ⟨h.done, h.apart, hr, h.c0, h.c1, h.c2, h.wr⟩
theorem DocAt.cut (h : DocAt e K B w vd D A n c R s p) {k : Nat} (hk : k ≤ n) : DocAt e K B w vd D (cutA A c k 1) (n - k) (c - k) (R.drop k) s p := h.turn (h.rest.drop hk)
end

theorem rest_put {r : Rule} {D R : List Int} {k : Nat} (hk : k ≤ (r.target ++ R.drop r.source.length).length) :
    putAt r (D ++ R) D.length = (D ++ (r.target ++ R.drop r.source.length).take k) ++ (r.target ++ R.drop r.source.length).drop k := by
  have h1 : (D ++ R).take D.length = D := by simp
  have h2 : (D ++ R).drop (D.length + r.source.length) = R.drop r.source.length := by rw [List.drop_append]; simp
  unfold putAt
  rw [h1, h2, List.append_assoc D, List.append_assoc D, List.take_append_drop]

end Go.Proofs.Ytfdkbhbnldcbmaa
