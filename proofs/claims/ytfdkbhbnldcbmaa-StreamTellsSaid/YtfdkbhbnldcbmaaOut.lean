/- Rows of texts that a call gathers. No program in sight, but for an element's type. -/
import Derived.Test.YtfdkbhbnldcbmaaPlAt
import Derived.Test.YtfdkbhbnldcbmaaProg
namespace Go.Proofs.Ytfdkbhbnldcbmaa
open Go.RowKit
set_option linter.unusedVariables false
set_option linter.unusedSimpArgs false

theorem T_text : ElemT Try.prog 57 23 1 24 := elemT Try.underlying57 (z := .slice none 0 0) (by kernel_rfl) rfl (by omega)

/-- texts told so far, in a row of the call's own, clear of block b -/
def OutR (e : TypeId) (b base : Nat) (w : World) (v : Value) (l : List (List Int)) : Prop :=
  ∃ ok : Nat → Prop, OwnR (rSl rRune 1 ok) e 1 base w v l ∧ (∀ i, ok i → i ≠ b ∧ i < w.heap.size) ∧ (∀ g, v.ownBlock = some g → ¬ ok g)
section
variable {e : TypeId} {b base : Nat} {w w' : World} {v : Value} {l : List (List Int)}
theorem OutR.nil (e : TypeId) (b base : Nat) (w : World) : OutR e b base w (.slice none 0 0) [] := ⟨bot, OwnR.nil _ _ _ _ _, fun i h => h.elim, fun g hg h => h⟩
theorem OutR.trn (h : OutR e b base w v l) (hb : b < base) (T : Trn b w w') : OutR e b base w' v l := by
  obtain ⟨ok, o, h1, h2⟩ := h
  have hT : w.grownBy w' (some b) := T
  refine ⟨ok, o.keep (keep_sl (keep_rune ok)) (T.agree.mono (fun i hi => (h1 i hi).1)) (fun g hg => hT.block g (o.lt g hg).2 (fun e => ?_)), fun i hi => ⟨(h1 i hi).1, Nat.lt_of_lt_of_le (h1 i hi).2 hT.size⟩, h2⟩
  have := (o.lt g hg).1
  cases e; omega
theorem OutR.ext (h : OutR e b base w v l) (hb : b < base) (x : Ext w w') : OutR e b base w' v l := h.trn hb (Trn.of b x)
theorem OutR.lt (h : OutR e b base w v l) : ∀ g, v.ownBlock = some g → base ≤ g ∧ g < w.heap.size := by
  obtain ⟨ok, o, _, _⟩ := h; exact o.lt
theorem OutR.len (h : OutR e b base w v l) : ∃ A c, v = .slice A l.length c := by
  obtain ⟨ok, o, _, _⟩ := h
  obtain ⟨A, c, e, _⟩ := o.form
  exact ⟨A, c, e⟩
/-- room is made for one more -/
theorem OutR.more (h : OutR e b base w v l) {tk : Nat → Prop} (ht : ∀ i, tk i → i ≠ b ∧ i < w.heap.size ∧ ∀ g, v.ownBlock = some g → i ≠ g) :
    ∃ ok : Nat → Prop, OwnR (rSl rRune 1 ok) e 1 base w v l ∧ (∀ i, tk i → ok i) ∧ (∀ i, ok i → i ≠ b ∧ i < w.heap.size) ∧ (∀ g, v.ownBlock = some g → ¬ ok g) := by
  obtain ⟨ok, o, h1, h2⟩ := h
  refine ⟨fun i => ok i ∨ tk i, o.weaken (fun vs x ⟨A, n, c, e, hs⟩ => ⟨A, n, c, e, hs.mono (fun _ _ h => h) (fun i hi => .inl hi)⟩), fun i hi => .inr hi, fun i hi => ?_, fun g hg hi => ?_⟩
  · rcases hi with hi | hi
    · exact h1 i hi
    · exact ⟨(ht i hi).1, (ht i hi).2.1⟩
  · rcases hi with hi | hi
    · exact h2 g hg hi
    · exact (ht g hi).2.2 g hg rfl
theorem OutR.shut {ok : Nat → Prop} {v' : Value} {l' : List (List Int)} (o : OwnR (rSl rRune 1 ok) e 1 base w' v' l') (h1 : ∀ i, ok i → i ≠ b ∧ i < w.heap.size) (h2 : ∀ g, v.ownBlock = some g → ¬ ok g)
    (hg : w.grownBy w' v.ownBlock) (hat : v'.ownBlock = v.ownBlock ∨ v'.ownBlock = some w.heap.size) : OutR e b base w' v' l' := by
  refine ⟨ok, o, fun i hi => ⟨(h1 i hi).1, Nat.lt_of_lt_of_le (h1 i hi).2 hg.size⟩, fun g hgv hk => ?_⟩
  rcases hat with e1 | e1
  · exact h2 g (e1 ▸ hgv) hk
  · rw [e1] at hgv
    have := (h1 g hk).2
    cases hgv; omega
theorem OutR.texts (h : OutR e b base w v l) : ∃ A c, v = .slice A l.length c ∧ Texts w A l.length c l := by
  obtain ⟨ok, o, _, _⟩ := h
  obtain ⟨A, c, e, hs⟩ := o.top
  exact ⟨A, c, e, texts_top hs⟩
theorem text_one {tk : Nat → Prop} {A : Option Addr} {n c : Nat} {t : List Int} (e : TypeId) (hs : SlR rRune 1 tk w A n c t) : SlR (rSl rRune 1 tk) 1 top (w.alloc (.cells #[.slice A n c] e)) (some ⟨w.heap.size, 0, none⟩) 1 1 [t] :=
  SlR.fresh rfl (by unfold maxLen; omega) fun k u hu => by
    match k, hu with
    | 0, hu => cases hu; exact ⟨[.slice A n c], rfl, ⟨A, n, c, rfl, hs.ext (keep_rune _) ((Ext.refl w).alloc _)⟩, fun j v hv => by match j, hv with | 0, hv => simpa using hv⟩
/-- runes and texts are where they were behind a store over a number -/
theorem runes_over {ok : Nat → Prop} {A : Option Addr} {n c : Nat} {t : List Int} {B o : Nat} {x : Int} {u : Value} (h : SlR rRune 1 ok w A n c t) (hc : w.cell? ⟨B, o, none⟩ = some (.int .i64 x)) :
    SlR rRune 1 ok (w.setCell ⟨B, o, none⟩ u) A n c t :=
  ⟨h.len, h.cap, h.max, fun k x hx => by
    obtain ⟨b, off, vs, e, ho, hl, hr, hcs⟩ := h.at_ k x hx
    refine ⟨b, off, vs, e, ho, hl, hr, fun j y hy => ?_⟩
    have h1 := hcs j y hy
    rw [World.cell?_setCell_other]
    · exact h1
    · intro e2
      rw [e2, h1] at hc
      obtain ⟨rfl, _⟩ := hr
      match j, hy with
      | 0, hy => simp at hy; subst hy; simp at hc⟩
theorem texts_over {A : Option Addr} {n c : Nat} {t : List (List Int)} {B o : Nat} {x : Int} {u : Value} (h : Texts w A n c t) (hc : w.cell? ⟨B, o, none⟩ = some (.int .i64 x)) :
    Texts (w.setCell ⟨B, o, none⟩ u) A n c t :=
  ⟨h.len, h.cap, h.max, fun k x hx => by
    obtain ⟨b, off, vs, e, ho, hl, ⟨A', n', c', rfl, hs⟩, hcs⟩ := h.at_ k x hx
    refine ⟨b, off, _, e, ho, hl, ⟨A', n', c', rfl, runes_over hs hc⟩, fun j y hy => ?_⟩
    have h1 := hcs j y hy
    rw [World.cell?_setCell_other]
    · exact h1
    · intro e2
      rw [e2, h1] at hc
      match j, hy with
      | 0, hy => simp at hy; subst hy; simp at hc⟩
theorem texts_over2 {A : Option Addr} {n c : Nat} {t : List (List Int)} {B : Nat} {x y : Int} {u v : Value} (h : Texts w A n c t) (h0 : w.cell? ⟨B, 0, none⟩ = some (.int .i64 x)) (h1 : w.cell? ⟨B, 1, none⟩ = some (.int .i64 y)) :
    Texts ((w.setCell ⟨B, 0, none⟩ u).setCell ⟨B, 1, none⟩ v) A n c t :=
  texts_over (texts_over h h0) (set_other h1 (by omega))
end

end Go.Proofs.Ytfdkbhbnldcbmaa
