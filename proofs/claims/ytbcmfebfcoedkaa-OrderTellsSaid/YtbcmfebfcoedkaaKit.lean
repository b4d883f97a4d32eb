/- From the readings of arguments to what the walks ask; the row's last steps. -/
import Derived.Test.YtbcmfebfcoedkaaRows
import Derived.Test.YtbcmfebfcoedkaaCut
import Derived.ProofKit
import Derived.OpenShut
import Derived.ChangeOld
import Derived.Deep.Fields
namespace Go.Proofs.Ytbcmfebfcoedkaa
open Go.ChangeShapes Go.WideShapes Go.ChangeAt Go.RowKit Go.Deep
set_option linter.unusedVariables false

theorem own : ownKnob Try.prog.godebug = none := by kernel_rfl
theorem laidOut : laidOutB Try.prog = true := by kernel_rfl

section
variable {H : Type} {enc : TypeId × Value → H} {P : Program} {w : World} {base : Nat} {spare : Nat → Bool} {held : Bool}

theorem wf_i32' {n : Int} (h : (Lit.int .i32 n).wf = true) : i32 n := by
  simp only [Lit.wf, IntKind.min, IntKind.max, IntKind.signed, IntKind.bits, Bool.and_eq_true, decide_eq_true_eq] at h
  unfold i32
  simp at h
  omega
theorem wf_i64' {n : Int} (h : (Lit.int .i64 n).wf = true) : i64 n := by
  simp only [Lit.wf, IntKind.min, IntKind.max, IntKind.signed, IntKind.bits, Bool.and_eq_true, decide_eq_true_eq] at h
  unfold i64
  simp at h
  omega

/-- what a reading of a slice gives -/
theorem slr_of {t e : TypeId} {sz : Nat} {α : Type} [Inhabited α] {R : World → List Value → α → Prop} (ht : P.underlying t = some (.slice e)) (hC : P.cellsOf e = sz) (hs : 0 < sz)
    (helem : ∀ fuel cs x, DataW.trod enc P w base spare held fuel e cs = some x → ∃ a, R w cs a)
    {fuel : Nat} {cs : List Value} {x : DataW H × List MemPlace} (h : DataW.trod enc P w base spare held fuel t cs = some x) :
    ∃ A n c l, cs = [.slice A n c] ∧ SlR R sz top w A n c l := by
  rcases open_slice ht h with ⟨rfl, _⟩ | ⟨a, len, cap, m, n, D, Pl, rfl, _, hl, hm, hmm, _, hi⟩
  · exact ⟨none, 0, 0, [], rfl, SlR.nil _ _ _ _ _ _ (by unfold maxLen; omega)⟩
  · rw [hC] at hi
    have hlm : len ≤ m := by rw [hmm]; split <;> omega
    have hex : ∀ i, i < len → ∃ y : α, ∃ vs : List Value, vs.length = sz ∧ R w vs y ∧ ∀ j u, vs[j]? = some u → w.cell? ((a.add (i * sz)).add j) = some u := fun i hil => by
      obtain ⟨cs', h1, h2⟩ := hi i (by omega)
      obtain ⟨_, h3, h4⟩ := World.cells?_some h1
      obtain ⟨y, hy⟩ := helem _ _ _ h2
      exact ⟨y, cs', h3, hy, fun j u hu => (h4 j (by rw [← h3]; exact lt_of_get hu)).trans hu⟩
    obtain ⟨f, hf⟩ := choose_lt hex
    refine ⟨some a, len, cap, (List.range len).map f, rfl, by simp, hl, hm, fun k y hk => ?_⟩
    have hkl : k < len := by have := lt_of_get hk; simpa using this
    have : f k = y := by simp [hkl] at hk; exact hk
    subst this
    obtain ⟨vs, v1, v2, v3⟩ := hf k hkl
    obtain ⟨b, off, spot⟩ := a
    have h0 := v3 0 (vs[0]'(by omega)) (List.getElem?_eq_getElem (by omega))
    have hsp : spot = none := by
      have := World.cell?_spot h0
      unfold Addr.add at this
      by_cases hz : k * sz = 0
      · have h00 := World.cell?_spot h0
        simpa [hz, Addr.add] using h00
      · simp [hz] at this
        by_cases hk0 : spot = none
        · exact hk0
        · exfalso
          obtain ⟨vs', v1', _, v3'⟩ := hf 0 (by omega)
          have h1 := World.cell?_spot (v3' 0 (vs'[0]'(by omega)) (List.getElem?_eq_getElem (by omega)))
          simp [Addr.add] at h1
          exact hk0 h1
    subst hsp
    refine ⟨b, off, vs, rfl, trivial, v1, v2, fun j u hu => ?_⟩
    have := v3 j u hu
    rw [addr_add, addr_add] at this
    exact this

/-- the fields of a struct, each of one cell -/
theorem fields_of {t : TypeId} {fs : Array Field} {fuel : Nat} {cs : List Value} {x : DataW H × List MemPlace} (ht : P.underlying t = some (.struct fs)) (hone : oneCellFields P fs = true) (hC : P.cellsOf t = fs.size)
    (h : DataW.trod enc P w base spare held fuel t cs = some x) :
    cs.length = fs.size ∧ ∃ n, ∀ (i : Nat) (f : Field), fs[i]? = some f → ∃ v y, cs[i]? = some v ∧ DataW.trod enc P w base spare held n f.type [v] = some y := by
  obtain ⟨xs, n, _, _, hl, hxl, hf⟩ := DataW.trod_struct ht h
  rw [hC] at hl
  refine ⟨hl, n, fun i f hi => ?_⟩
  obtain ⟨ho, hk⟩ := hone_of hone i f hi
  have hil : i < fs.size := (Array.getElem?_eq_some_iff.1 hi).1
  have h1 := hf i f hi
  rw [ho, hk] at h1
  have hone' : (cs.drop i).take 1 = [cs[i]'(by omega)] := by
    rw [List.drop_eq_getElem_cons (by omega)]
    rfl
  rw [hone'] at h1
  exact ⟨_, _, List.getElem?_eq_getElem (by omega), h1.trans (List.getElem?_eq_getElem (by omega))⟩

theorem trodAll_below (hl : laidOutB P = true) {W W' : World} (hb : Below W.heap.size W W') : ∀ {ts : List TypeId} {vs : List Value} {ds : List (DataW H)} {ps : List MemPlace},
    (∀ t ∈ ts, P.readableRec t = true ∧ t < P.types.size) → DataW.TrodAll enc P W 0 (fun _ => true) true ts vs ds ps → (∀ x ∈ ps, x.block < W.heap.size) →
    DataW.TrodAll enc P W' 0 (fun b => decide (b < W.heap.size)) true ts vs ds ps
  | [], vs, ds, ps, _, h, _ => by
    obtain ⟨rfl, rfl, rfl⟩ := trodAll_nil h
    exact trodAll_mk0
  | t :: ts, vs, ds, ps, ht, h, hlt => by
    obtain ⟨v, vs', d, ds', p, q, rfl, rfl, rfl, h0, h1⟩ := trodAll_cons h
    exact trodAll_cons_mk (Below.trod hl (ht t (List.mem_cons_self ..)).1 (ht t (List.mem_cons_self ..)).2 h0 hb (fun x hx => hlt x (List.mem_append_left _ hx)))
      (trodAll_below hl hb (fun t' ht' => ht t' (List.mem_cons_of_mem _ ht')) h1 (fun x hx => hlt x (List.mem_append_right _ hx)))
theorem trodAll_lt {W : World} : ∀ {ts : List TypeId} {vs : List Value} {ds : List (DataW H)} {ps : List MemPlace}, DataW.TrodAll enc P W 0 (fun _ => true) true ts vs ds ps → ∀ x ∈ ps, x.block < W.heap.size
  | [], vs, ds, ps, h => by
    obtain ⟨rfl, rfl, rfl⟩ := trodAll_nil h
    exact fun x hx => by cases hx
  | t :: ts, vs, ds, ps, h => by
    obtain ⟨v, vs', d, ds', p, q, rfl, rfl, rfl, h0, h1⟩ := trodAll_cons h
    intro x hx
    rcases List.mem_append.1 hx with hx | hx
    · obtain ⟨m, hm⟩ := h0; exact DataW.trod_lt m _ _ _ hm x hx
    · exact trodAll_lt h1 x hx
end

section
variable {H : Type} {enc : TypeId × Value → H} {w : World} {base : Nat} {spare : Nat → Bool} {held : Bool} {fuel : Nat} {cs : List Value} {x : DataW H × List MemPlace}

theorem rune_of (h : DataW.trod enc Try.prog w base spare held fuel 21 cs = some x) : ∃ a, rRune w cs a := by
  obtain ⟨n, rfl, _, hw⟩ := DataW.trod_int Try.underlying21 h
  exact ⟨n, rfl, wf_i32' hw⟩
theorem runes_of (h : DataW.trod enc Try.prog w base spare held fuel 22 cs = some x) : ∃ A n c l, cs = [.slice A n c] ∧ Runes w A n c l :=
  slr_of Try.underlying22 (by kernel_rfl) (by omega) (fun _ _ _ h => rune_of h) h
theorem texts_of (h : DataW.trod enc Try.prog w base spare held fuel 33 cs = some x) : ∃ A n c l, cs = [.slice A n c] ∧ Texts w A n c l :=
  slr_of Try.underlying33 (by kernel_rfl) (by omega) (fun _ _ _ h => by obtain ⟨A, n, c, l, e, h'⟩ := runes_of h; exact ⟨l, A, n, c, e, h'⟩) h

/- the seven values of a rule -/
end

end Go.Proofs.Ytbcmfebfcoedkaa
