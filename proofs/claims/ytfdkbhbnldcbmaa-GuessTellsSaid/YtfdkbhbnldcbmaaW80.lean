/- Rows of texts that a call gathers, and what is wrong with a question. -/
import Derived.Test.YtfdkbhbnldcbmaaW72
import Derived.Test.YtfdkbhbnldcbmaaPl22
namespace Go.Proofs.Ytfdkbhbnldcbmaa
open Go.RowKit
set_option linter.unusedVariables false
set_option linter.unusedSimpArgs false

theorem T_textG : ElemT Try.prog 57 23 1 24 := elemT Try.underlying57 (z := .slice none 0 0) (by kernel_rfl) rfl (by omega)
theorem textG_one {w : World} {tk : Nat → Prop} {A : Option Addr} {n c : Nat} {t : List Int} (e : TypeId) (hs : SlR rRune 1 tk w A n c t) : SlR (rSl rRune 1 tk) 1 top (w.alloc (.cells #[.slice A n c] e)) (some ⟨w.heap.size, 0, none⟩) 1 1 [t] :=
  SlR.fresh rfl (by unfold maxLen; omega) fun k u hu => by
    match k, hu with
    | 0, hu => cases hu; exact ⟨[.slice A n c], rfl, ⟨A, n, c, rfl, hs.ext (keep_rune _) ((Ext.refl w).alloc _)⟩, fun j v hv => by match j, hv with | 0, hv => simpa using hv⟩

/-- blocks made from one place on, up to another -/
def rng (a b : Nat) : Nat → Prop := fun i => a ≤ i ∧ i < b
/-- texts gathered in a row of the call's own -/
def RowT (e : TypeId) (base : Nat) (w : World) (v : Value) (l : List (List Int)) : Prop :=
  ∃ ok : Nat → Prop, OwnR (rSl rRune 1 ok) e 1 base w v l ∧ (∀ i, ok i → base ≤ i ∧ i < w.heap.size) ∧ (∀ g, v.ownBlock = some g → ¬ ok g)
section
variable {e : TypeId} {base : Nat} {w w' : World} {v : Value} {l : List (List Int)}
theorem RowT.nil (e : TypeId) (base : Nat) (w : World) : RowT e base w (.slice none 0 0) [] := ⟨bot, OwnR.nil _ _ _ _ _, fun i h => h.elim, fun g hg h => h⟩
theorem RowT.ext (h : RowT e base w v l) (x : Ext w w') : RowT e base w' v l := by
  obtain ⟨ok, o, h1, h2⟩ := h
  exact ⟨ok, o.ext (keep_sl (keep_rune ok)) x, fun i hi => ⟨(h1 i hi).1, Nat.lt_of_lt_of_le (h1 i hi).2 x.size⟩, h2⟩
theorem RowT.lt (h : RowT e base w v l) : ∀ g, v.ownBlock = some g → base ≤ g ∧ g < w.heap.size := by
  obtain ⟨ok, o, _, _⟩ := h; exact o.lt
theorem RowT.form (h : RowT e base w v l) : ∃ A c, v = .slice A l.length c ∧ l.length ≤ c ∧ c ≤ maxLen := by
  obtain ⟨ok, o, _, _⟩ := h; exact o.form
theorem RowT.more (h : RowT e base w v l) {tk : Nat → Prop} (ht : ∀ i, tk i → base ≤ i ∧ i < w.heap.size ∧ ∀ g, v.ownBlock = some g → i ≠ g) :
    ∃ ok : Nat → Prop, OwnR (rSl rRune 1 ok) e 1 base w v l ∧ (∀ i, tk i → ok i) ∧ (∀ i, ok i → base ≤ i ∧ i < w.heap.size) ∧ (∀ g, v.ownBlock = some g → ¬ ok g) := by
  obtain ⟨ok, o, h1, h2⟩ := h
  refine ⟨fun i => ok i ∨ tk i, o.weaken (fun vs x ⟨A, n, c, e, hs⟩ => ⟨A, n, c, e, hs.mono (fun _ _ h => h) (fun i hi => .inl hi)⟩), fun i hi => .inr hi, fun i hi => ?_, fun g hg hi => ?_⟩
  · rcases hi with hi | hi
    · exact h1 i hi
    · exact ⟨(ht i hi).1, (ht i hi).2.1⟩
  · rcases hi with hi | hi
    · exact h2 g hg hi
    · exact (ht g hi).2.2 g hg rfl
theorem RowT.shut {ok : Nat → Prop} {v' : Value} {l' : List (List Int)} (o : OwnR (rSl rRune 1 ok) e 1 base w' v' l') (h1 : ∀ i, ok i → base ≤ i ∧ i < w.heap.size) (h2 : ∀ g, v.ownBlock = some g → ¬ ok g)
    (hg : w.grownBy w' v.ownBlock) (hat : v'.ownBlock = v.ownBlock ∨ v'.ownBlock = some w.heap.size) : RowT e base w' v' l' := by
  refine ⟨ok, o, fun i hi => ⟨(h1 i hi).1, Nat.lt_of_lt_of_le (h1 i hi).2 hg.size⟩, fun g hgv hk => ?_⟩
  rcases hat with e1 | e1
  · exact h2 g (e1 ▸ hgv) hk
  · rw [e1] at hgv
    have := (h1 g hk).2
    cases hgv; omega
theorem RowT.texts (h : RowT e base w v l) : ∃ A c, v = .slice A l.length c ∧ Texts w A l.length c l := by
  obtain ⟨ok, o, _, _⟩ := h
  obtain ⟨A, c, e, hs⟩ := o.top
  exact ⟨A, c, e, texts_top hs⟩
/-- what has been gathered, as texts that lie within a range -/
theorem RowT.rng (h : RowT e base w v l) : ∃ A c, v = .slice A l.length c ∧ SlR (rSl rRune 1 (rng base w.heap.size)) 1 (rng base w.heap.size) w A l.length c l := by
  obtain ⟨ok, o, h1, h2⟩ := h
  obtain ⟨A, c, e, hs⟩ := o.sl
  refine ⟨A, c, e, hs.len, hs.cap, hs.max, fun k x hx => ?_⟩
  obtain ⟨b, off, vs, e1, ho, hl, ⟨A', n', c', rfl, hr⟩, hcs⟩ := hs.at_ k x hx
  refine ⟨b, off, _, e1, ⟨ho, ?_⟩, hl, ⟨A', n', c', rfl, hr.mono (fun _ _ h => h) h1⟩, hcs⟩
  exact World.block_lt_of_cell? _ _ (hcs 0 _ rfl)
/-- a row with one empty text -/
theorem level_zero (w : World) (t : TypeId) : SlR (rSl rRune 1 (Go.Proofs.Ytfdkbhbnldcbmaa.rng w.heap.size (w.heap.size + 1))) 1 (Go.Proofs.Ytfdkbhbnldcbmaa.rng w.heap.size (w.heap.size + 1)) (w.alloc (.cells #[.slice none 0 0] t)) (some ⟨w.heap.size, 0, none⟩) 1 1 [[]] := by
  refine ⟨rfl, Nat.le_refl _, by unfold maxLen; omega, fun k y hk => ?_⟩
  match k, hk with
  | 0, hk =>
    cases hk
    exact ⟨_, 0, [.slice none 0 0], rfl, ⟨Nat.le_refl _, by omega⟩, rfl, ⟨none, 0, 0, rfl, SlR.nil _ _ _ _ _ _ (by unfold maxLen; omega)⟩, fun j v hv => by match j, hv with | 0, hv => cases hv; simp⟩
end
/-- one text of a level -/
theorem level_at {w : World} {a b : Nat} {A : Option Addr} {n c : Nat} {L : List (List Int)} (h : SlR (rSl rRune 1 (rng a b)) 1 (rng a b) w A n c L) {k : Nat} {t : List Int} (ht : L[k]? = some t) :
    ∃ blk off A' n' c', A = some ⟨blk, off, none⟩ ∧ w.cell? ⟨blk, off + k, none⟩ = some (.slice A' n' c') ∧ SlR rRune 1 (rng a b) w A' n' c' t := by
  obtain ⟨blk, off, vs, e1, ho, hl, ⟨A', n', c', rfl, hr⟩, hcs⟩ := h.at_ k t ht
  have h0 := hcs 0 _ rfl
  rw [Nat.mul_one, Nat.add_zero] at h0
  exact ⟨blk, off, A', n', c', e1, h0, hr⟩

theorem fault_errG (x y : Int) (W : World) : (Instr.field 38 (.agg #[.int .i64 x, .int .i64 y]) 0).run Try.prog W = .ok (.int .i64 x) W := by
  unfold Instr.field
  simp [run_underlying Try.underlying38, asAgg, part]

def WrongR (l : List Rule) (ds : List Sp) (t : List Int) (e : Ending) : Prop := ∃ z : Int, e = .returned (.tuple #[.int .i64 z, .int .i64 (guE l ds t)]) ∧ (guE l ds t = 0 → z = countL ds)
theorem WrongR.of {l : List Rule} {ds : List Sp} {t : List Int} {z x : Int} (he : guE l ds t = x) (hz : x = 0 → z = countL ds) : WrongR l ds t (.returned (.tuple #[.int .i64 z, .int .i64 x])) := by
  subst he; exact ⟨z, rfl, hz⟩

section
variable (A : Option Addr) (n c : Nat) (l : List Rule) (B : Option Addr) (m d : Nat) (ds : List Sp) (X : Option Addr) (p q : Nat) (t : List Int) (w : World) (h : Rules w A n c l) (hd : Spans w B m d ds) (ht : Runes w X p q t)
set_option maxRecDepth 100000 in
set_option maxHeartbeats 1600000 in
include h hd ht in
theorem guessWrong_any : Calls Try.prog 103 #[.slice A n c, .slice B m d, .slice X p q] w fun e w' => WrongR l ds t e ∧ Ext w w' := by
  have hfl := fault_errG
  have C1 := Lib.hid (Wrongs_any A n c l w h)
  have C3 := Lib.hid (fun W (e : Ext w W) => Count_any B m d ds W (hd.ext e))
  have C4 := Lib.hid (fun W (e : Ext w W) => Text_any X p q t W (ht.ext e))
  by_cases h0 : (wrongRules l).1 = 0
  · rw [(wrongRules_zero h0).1] at C1
    by_cases h2 : wrongSet ds = 0
    · have hcv : countV ds = countL ds := by unfold countV; rw [if_neg (by simpa using h2)]
      rw [hcv, h2] at C3
      by_cases h3 : 5 < countL ds
      · have HE := Lib.hid (guE3 (t := t) h0 h2 h3)
        have hn : decide (5 < countL ds) = true := by simpa using h3
        clear h ht hd h0 h2 h3 hcv
        generalize countL ds = z at *
        go_enter Try.func103, Try.ntmps103
        go_wp2_with (first
          | (go_at_call 31; ((with_reducible refine C1.out.mono ?_); rintro e w1 ⟨rfl, x1⟩))
          | (go_at_call 58; refine (C3.out _ x1).mono ?_; rintro e w3 ⟨rfl, x3⟩; have e3 := x1.trans x3))
        refine bodyPost_ret (v := .tuple #[.int .i64 0, .int .i64 5]) (by simp [results, Try.results103, go_sem]) rfl ?_
        exact ⟨WrongR.of HE.out (by omega), e3⟩
      · have HE := Lib.hid (guE4 (t := t) h0 h2 h3)
        have hn : decide (5 < countL ds) = false := by simpa using h3
        have HZ : Hid (∃ z, countL ds = z) := Lib.hid ⟨_, rfl⟩
        clear h ht hd h0 h2 h3 hcv
        obtain ⟨z, hz⟩ := HZ.out
        rw [hz] at C3 hn
        have HZ := Lib.hid hz.symm
        clear hz
        generalize wrongText t = y at *
        go_enter Try.func103, Try.ntmps103
        go_wp2_with (first
          | (go_at_call 31; ((with_reducible refine C1.out.mono ?_); rintro e w1 ⟨rfl, x1⟩))
          | (go_at_call 58; refine (C3.out _ x1).mono ?_; rintro e w3 ⟨rfl, x3⟩; have e3 := x1.trans x3)
          | (go_at_call 24; refine (C4.out _ e3).mono ?_; rintro e w4 ⟨rfl, x4⟩))
        refine bodyPost_ret (v := .tuple #[.int .i64 z, .int .i64 y]) (by simp [results, Try.results103, go_sem]) rfl ?_
        exact ⟨WrongR.of HE.out (fun _ => HZ.out), e3.trans x4⟩
    · have HE := Lib.hid (guE2 (t := t) h0 h2)
      have hn : (wrongSet ds != 0) = true := by simpa using h2
      have HN := Lib.hid h2
      clear h ht hd h0 h2
      generalize wrongSet ds = p1 at *
      go_enter Try.func103, Try.ntmps103
      go_wp2_with (first
        | (go_at_call 31; ((with_reducible refine C1.out.mono ?_); rintro e w1 ⟨rfl, x1⟩))
        | (go_at_call 58; refine (C3.out _ x1).mono ?_; rintro e w3 ⟨rfl, x3⟩; have e3 := x1.trans x3))
      refine bodyPost_ret (v := .tuple #[.int .i64 0, .int .i64 p1]) (by simp [results, Try.results103, go_sem]) rfl ?_
      exact ⟨WrongR.of HE.out (fun h => absurd h HN.out), e3⟩
  · have HE := Lib.hid (guE1 (d := ds) (t := t) h0)
    have hn : ((wrongRules l).1 != 0) = true := by simpa using h0
    have HN := Lib.hid h0
    clear h ht hd h0
    generalize (wrongRules l).1 = p1 at *
    generalize (wrongRules l).2 = p2 at *
    go_enter Try.func103, Try.ntmps103
    go_wp2_with (first
      | (go_at_call 31; ((with_reducible refine C1.out.mono ?_); rintro e w1 ⟨rfl, x1⟩)))
    refine bodyPost_ret (v := .tuple #[.int .i64 0, .int .i64 p1]) (by simp [results, Try.results103, go_sem]) rfl ?_
    exact ⟨WrongR.of HE.out (fun h => absurd h HN.out), x1⟩
end

end Go.Proofs.Ytfdkbhbnldcbmaa
