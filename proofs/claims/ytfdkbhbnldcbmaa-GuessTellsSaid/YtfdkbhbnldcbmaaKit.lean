/- From the readings of arguments to what the walks ask; the row's last steps. -/
import Derived.Test.YtfdkbhbnldcbmaaRows
import Derived.Test.YtfdkbhbnldcbmaaCut
import Derived.ProofKit
import Derived.OpenShut
import Derived.ChangeOld
import Derived.Deep.Fields
namespace Go.Proofs.Ytfdkbhbnldcbmaa
open Go.ChangeShapes Go.WideShapes Go.ChangeAt Go.RowKit Go.Deep
set_option linter.unusedVariables false

theorem own : ownKnob Try.prog.godebug = none := by kernel_rfl
theorem laidOut : laidOutB Try.prog = true := by kernel_rfl

section
variable {H : Type} {enc : TypeId × Value → H} {P : Program} {w : World} {base : Nat} {spare : Nat → Bool} {held : Bool}

theorem wf_i32' {n : Int} (h : (Lit.int .i32 n).wf = true) : i32 n := by
  simp only [Lit.wf, IntKind.min, IntKind.max, IntKind.signed, IntKind.bits, Bool.and_eq_true, decide_eq_true_eq] at h
  unfold i32
  simp at h
  omega
theorem wf_i64' {n : Int} (h : (Lit.int .i64 n).wf = true) : i64 n := by
  simp only [Lit.wf, IntKind.min, IntKind.max, IntKind.signed, IntKind.bits, Bool.and_eq_true, decide_eq_true_eq] at h
  unfold i64
  simp at h
  omega

/-- what a reading of a slice gives -/
theorem slr_of {t e : TypeId} {sz : Nat} {α : Type} [Inhabited α] {R : World → List Value → α → Prop} (ht : P.underlying t = some (.slice e)) (hC : P.cellsOf e = sz) (hs : 0 < sz)
    (helem : ∀ fuel cs x, DataW.trod enc P w base spare held fuel e cs = some x → ∃ a, R w cs a)
    {fuel : Nat} {cs : List Value} {x : DataW H × List MemPlace} (h : DataW.trod enc P w base spare held fuel t cs = some x) :
    ∃ A n c l, cs = [.slice A n c] ∧ SlR R sz top w A n c l := by
  rcases open_slice ht h with ⟨rfl, _⟩ | ⟨a, len, cap, m, n, D, Pl, rfl, _, hl, hm, hmm, _, hi⟩
  · exact ⟨none, 0, 0, [], rfl, SlR.nil _ _ _ _ _ _ (by unfold maxLen; omega)⟩
  · rw [hC] at hi
    have hlm : len ≤ m := by rw [hmm]; split <;> omega
    have hex : ∀ i, i < len → ∃ y : α, ∃ vs : List Value, vs.length = sz ∧ R w vs y ∧ ∀ j u, vs[j]? = some u → w.cell? ((a.add (i * sz)).add j) = some u := fun i hil => by
      obtain ⟨cs', h1, h2⟩ := hi i (by omega)
      obtain ⟨_, h3, h4⟩ := World.cells?_some h1
      obtain ⟨y, hy⟩ := helem _ _ _ h2
      exact ⟨y, cs', h3, hy, fun j u hu => (h4 j (by rw [← h3]; exact lt_of_get hu)).trans hu⟩
    obtain ⟨f, hf⟩ := choose_lt hex
    refine ⟨some a, len, cap, (List.range len).map f, rfl, by simp, hl, hm, fun k y hk => ?_⟩
    have hkl : k < len := by have := lt_of_get hk; simpa using this
    have : f k = y := by simp [hkl] at hk; exact hk
    subst this
    obtain ⟨vs, v1, v2, v3⟩ := hf k hkl
    obtain ⟨b, off, spot⟩ := a
    have h0 := v3 0 (vs[0]'(by omega)) (List.getElem?_eq_getElem (by omega))
    have hsp : spot = none := by
      have := World.cell?_spot h0
      unfold Addr.add at this
      by_cases hz : k * sz = 0
      · have h00 := World.cell?_spot h0
        simpa [hz, Addr.add] using h00
      · simp [hz] at this
        by_cases hk0 : spot = none
        · exact hk0
        · exfalso
          obtain ⟨vs', v1', _, v3'⟩ := hf 0 (by omega)
          have h1 := World.cell?_spot (v3' 0 (vs'[0]'(by omega)) (List.getElem?_eq_getElem (by omega)))
          simp [Addr.add] at h1
          exact hk0 h1
    subst hsp
    refine ⟨b, off, vs, rfl, trivial, v1, v2, fun j u hu => ?_⟩
    have := v3 j u hu
    rw [addr_add, addr_add] at this
    exact this

/-- the fields of a struct, each of one cell -/
theorem fields_of {t : TypeId} {fs : Array Field} {fuel : Nat} {cs : List Value} {x : DataW H × List MemPlace} (ht : P.underlying t = some (.struct fs)) (hone : oneCellFields P fs = true) (hC : P.cellsOf t = fs.size)
    (h : DataW.trod enc P w base spare held fuel t cs = some x) :
    cs.length = fs.size ∧ ∃ n, ∀ (i : Nat) (f : Field), fs[i]? = some f → ∃ v y, cs[i]? = some v ∧ DataW.trod enc P w base spare held n f.type [v] = some y := by
  obtain ⟨xs, n, _, _, hl, hxl, hf⟩ := DataW.trod_struct ht h
  rw [hC] at hl
  refine ⟨hl, n, fun i f hi => ?_⟩
  obtain ⟨ho, hk⟩ := hone_of hone i f hi
  have hil : i < fs.size := (Array.getElem?_eq_some_iff.1 hi).1
  have h1 := hf i f hi
  rw [ho, hk] at h1
  have hone' : (cs.drop i).take 1 = [cs[i]'(by omega)] := by
    rw [List.drop_eq_getElem_cons (by omega)]
    rfl
  rw [hone'] at h1
  exact ⟨_, _, List.getElem?_eq_getElem (by omega), h1.trans (List.getElem?_eq_getElem (by omega))⟩

theorem trodAll_below (hl : laidOutB P = true) {W W' : World} (hb : Below W.heap.size W W') : ∀ {ts : List TypeId} {vs : List Value} {ds : List (DataW H)} {ps : List MemPlace},
    (∀ t ∈ ts, P.readableRec t = true ∧ t < P.types.size) → DataW.TrodAll enc P W 0 (fun _ => true) true ts vs ds ps → (∀ x ∈ ps, x.block < W.heap.size) →
    DataW.TrodAll enc P W' 0 (fun b => decide (b < W.heap.size)) true ts vs ds ps
  | [], vs, ds, ps, _, h, _ => by
    obtain ⟨rfl, rfl, rfl⟩ := trodAll_nil h
    exact trodAll_mk0
  | t :: ts, vs, ds, ps, ht, h, hlt => by
    obtain ⟨v, vs', d, ds', p, q, rfl, rfl, rfl, h0, h1⟩ := trodAll_cons h
    exact trodAll_cons_mk (Below.trod hl (ht t (List.mem_cons_self ..)).1 (ht t (List.mem_cons_self ..)).2 h0 hb (fun x hx => hlt x (List.mem_append_left _ hx)))
      (trodAll_below hl hb (fun t' ht' => ht t' (List.mem_cons_of_mem _ ht')) h1 (fun x hx => hlt x (List.mem_append_right _ hx)))
theorem trodAll_lt {W : World} : ∀ {ts : List TypeId} {vs : List Value} {ds : List (DataW H)} {ps : List MemPlace}, DataW.TrodAll enc P W 0 (fun _ => true) true ts vs ds ps → ∀ x ∈ ps, x.block < W.heap.size
  | [], vs, ds, ps, h => by
    obtain ⟨rfl, rfl, rfl⟩ := trodAll_nil h
    exact fun x hx => by cases hx
  | t :: ts, vs, ds, ps, h => by
    obtain ⟨v, vs', d, ds', p, q, rfl, rfl, rfl, h0, h1⟩ := trodAll_cons h
    intro x hx
    rcases List.mem_append.1 hx with hx | hx
    · obtain ⟨m, hm⟩ := h0; exact DataW.trod_lt m _ _ _ hm x hx
    · exact trodAll_lt h1 x hx
end

section
variable {H : Type} {enc : TypeId × Value → H} {w : World} {base : Nat} {spare : Nat → Bool} {held : Bool} {fuel : Nat} {cs : List Value} {x : DataW H × List MemPlace}

theorem rune_of (h : DataW.trod enc Try.prog w base spare held fuel 21 cs = some x) : ∃ a, rRune w cs a := by
  obtain ⟨n, rfl, _, hw⟩ := DataW.trod_int Try.underlying21 h
  exact ⟨n, rfl, wf_i32' hw⟩
theorem span_of (h : DataW.trod enc Try.prog w base spare held fuel 80 cs = some x) : ∃ a, rSpan w cs a := by
  obtain ⟨hl, n, hf⟩ := fields_of Try.underlying80 (by kernel_rfl) (by kernel_rfl) h
  obtain ⟨v0, y0, c0, t0⟩ := hf 0 _ rfl
  obtain ⟨v1, y1, c1, t1⟩ := hf 1 _ rfl
  obtain ⟨a, e0, _, w0⟩ := DataW.trod_int Try.underlying21 t0
  obtain ⟨b, e1, _, w1⟩ := DataW.trod_int Try.underlying21 t1
  simp only [List.cons.injEq, and_true] at e0 e1
  subst e0 e1
  match cs, hl, c0, c1 with
  | [p, q], _, c0, c1 => exact ⟨⟨a, b⟩, by simp at c0 c1; rw [c0, c1], wf_i32' w0, wf_i32' w1⟩
theorem runes_of (h : DataW.trod enc Try.prog w base spare held fuel 23 cs = some x) : ∃ A n c l, cs = [.slice A n c] ∧ Runes w A n c l :=
  slr_of Try.underlying23 (by kernel_rfl) (by omega) (fun _ _ _ h => rune_of h) h
theorem spans_of (h : DataW.trod enc Try.prog w base spare held fuel 67 cs = some x) : ∃ A n c l, cs = [.slice A n c] ∧ Spans w A n c l :=
  slr_of Try.underlying67 (by kernel_rfl) (by omega) (fun _ _ _ h => span_of h) h
theorem sets_of (h : DataW.trod enc Try.prog w base spare held fuel 22 cs = some x) : ∃ A n c l, cs = [.slice A n c] ∧ Sets w A n c l :=
  slr_of Try.underlying22 (by kernel_rfl) (by omega) (fun _ _ _ h => by obtain ⟨A, n, c, l, e, h'⟩ := spans_of h; exact ⟨l, A, n, c, e, h'⟩) h
theorem texts_of (h : DataW.trod enc Try.prog w base spare held fuel 57 cs = some x) : ∃ A n c l, cs = [.slice A n c] ∧ Texts w A n c l :=
  slr_of Try.underlying57 (by kernel_rfl) (by omega) (fun _ _ _ h => by obtain ⟨A, n, c, l, e, h'⟩ := runes_of h; exact ⟨l, A, n, c, e, h'⟩) h

/- the seven values of a rule -/
theorem ruleV_of (h : DataW.trod enc Try.prog w base spare held fuel 25 cs = some x) :
    ∃ s f A1 n1 c1 A2 n2 c2 A3 n3 c3 A4 n4 c4 k r, cs = [.bool s, .bool f, .slice A1 n1 c1, .slice A2 n2 c2, .slice A3 n3 c3, .slice A4 n4 c4, .int .i64 k] ∧ RuleV w s f A1 n1 c1 A2 n2 c2 A3 n3 c3 A4 n4 c4 k r := by
  obtain ⟨hl, n, hf⟩ := fields_of Try.underlying25 (by kernel_rfl) (by kernel_rfl) h
  obtain ⟨v0, y0, d0, t0⟩ := hf 0 _ rfl
  obtain ⟨v1, y1, d1, t1⟩ := hf 1 _ rfl
  obtain ⟨v2, y2, d2, t2⟩ := hf 2 _ rfl
  obtain ⟨v3, y3, d3, t3⟩ := hf 3 _ rfl
  obtain ⟨v4, y4, d4, t4⟩ := hf 4 _ rfl
  obtain ⟨v5, y5, d5, t5⟩ := hf 5 _ rfl
  obtain ⟨v6, y6, d6, t6⟩ := hf 6 _ rfl
  obtain ⟨s, e0, _⟩ := DataW.trod_bool Try.underlying4 t0
  obtain ⟨f, e1, _⟩ := DataW.trod_bool Try.underlying4 t1
  obtain ⟨A1, n1, c1, l1, e2, h1⟩ := sets_of t2
  obtain ⟨A2, n2, c2, l2, e3, h2⟩ := sets_of t3
  obtain ⟨A3, n3, c3, l3, e4, h3⟩ := sets_of t4
  obtain ⟨A4, n4, c4, l4, e5, h4⟩ := runes_of t5
  obtain ⟨k, e6, _, w6⟩ := DataW.trod_int Try.underlying3 t6
  simp only [List.cons.injEq, and_true] at e0 e1 e2 e3 e4 e5 e6
  subst e0 e1 e2 e3 e4 e5 e6
  refine ⟨s, f, A1, n1, c1, A2, n2, c2, A3, n3, c3, A4, n4, c4, k, ⟨s, f, l1, l2, l3, l4, k⟩, ?_, ⟨rfl, rfl, h1, h2, h3, h4, rfl, wf_i64' w6⟩⟩
  match cs, hl, d0, d1, d2, d3, d4, d5, d6 with
  | [a, b, c, d, e, f, g], _, d0, d1, d2, d3, d4, d5, d6 => simp at d0 d1 d2 d3 d4 d5 d6; rw [d0, d1, d2, d3, d4, d5, d6]
theorem rule_of (h : DataW.trod enc Try.prog w base spare held fuel 25 cs = some x) : ∃ r, rRule w cs r := by
  obtain ⟨s, f, A1, n1, c1, A2, n2, c2, A3, n3, c3, A4, n4, c4, k, r, e, h'⟩ := ruleV_of h
  exact ⟨r, s, f, A1, n1, c1, A2, n2, c2, A3, n3, c3, A4, n4, c4, k, e, h'⟩
theorem rules_of (h : DataW.trod enc Try.prog w base spare held fuel 36 cs = some x) : ∃ A n c l, cs = [.slice A n c] ∧ Rules w A n c l :=
  slr_of Try.underlying36 (by kernel_rfl) (by omega) (fun _ _ _ h => rule_of h) h
end

end Go.Proofs.Ytfdkbhbnldcbmaa
