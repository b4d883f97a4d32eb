/- From the reading of edits to what the walks ask, with the nested slice's reach. -/
import Derived.Test.YtpnflnocmekpnaaG8
import Derived.Test.YtpnflnocmekpnaaKit2
namespace Go.Proofs.Ytpnflnocmekpnaa
open Go.ChangeShapes Go.WideShapes Go.ChangeAt Go.RowKit Go.Deep
set_option linter.unusedVariables false

section
variable {H : Type} {enc : TypeId × Value → H} {P : Program} {w : World} {base : Nat} {spare : Nat → Bool} {held : Bool} {B : Nat}

theorem weightsAll_mem {e : TypeId} : ∀ {ds : List (DataW H)} {d : DataW H}, d ∈ ds → ∀ k ∈ d.weights P e, k ∈ DataW.weightsAll P e ds
  | [], _, h, _, _ => by cases h
  | a :: r, d, h, k, hk => by
    simp only [DataW.weightsAll, List.mem_append]
    rcases List.mem_cons.1 h with rfl | h
    · exact .inl hk
    · exact .inr (weightsAll_mem h k hk)

/-- what a reading of a slice gives, the elements' reach handed on -/
theorem slrz_of {t e : TypeId} {sz : Nat} {α : Type} [Inhabited α] {R : World → List Value → α → Prop} (ht : P.underlying t = some (.slice e)) (hC : P.cellsOf e = sz) (hs : 0 < sz)
    (helem : ∀ fuel cs x, DataW.trod enc P w base spare held fuel e cs = some x → (∀ k ∈ x.1.weights P e, k ≤ B) → ∃ a, R w cs a)
    {fuel : Nat} {cs : List Value} {x : DataW H × List MemPlace} (h : DataW.trod enc P w base spare held fuel t cs = some x) (hz : ∀ k ∈ x.1.weights P t, k ≤ B) :
    ∃ A n c l, cs = [.slice A n c] ∧ SlR R sz top w A n c l := by
  rcases open_slice ht h with ⟨rfl, _⟩ | ⟨a, len, cap, m, n, D, Pl, rfl, _, hl, hm, hmm, ex, hi⟩
  · exact ⟨none, 0, 0, [], rfl, SlR.nil _ _ _ _ _ _ (by unfold maxLen; omega)⟩
  · rw [hC] at hi
    have hlm : len ≤ m := by rw [hmm]; split <;> omega
    have hzi : ∀ i, i < len → ∀ k ∈ (D i).weights P e, k ≤ B := fun i hil k hk => by
      refine hz k ?_
      rw [ex]
      simp only [DataW.weights, ht, List.mem_cons, List.mem_append]
      exact .inr (.inl (weightsAll_mem (List.mem_map.2 ⟨i, List.mem_range.2 hil, rfl⟩) k hk))
    have hex : ∀ i, i < len → ∃ y : α, ∃ vs : List Value, vs.length = sz ∧ R w vs y ∧ ∀ j u, vs[j]? = some u → w.cell? ((a.add (i * sz)).add j) = some u := fun i hil => by
      obtain ⟨cs', h1, h2⟩ := hi i (by omega)
      obtain ⟨_, h3, h4⟩ := World.cells?_some h1
      obtain ⟨y, hy⟩ := helem _ _ _ h2 (hzi i hil)
      exact ⟨y, cs', h3, hy, fun j u hu => (h4 j (by rw [← h3]; exact lt_of_get hu)).trans hu⟩
    obtain ⟨f, hf⟩ := choose_lt hex
    refine ⟨some a, len, cap, (List.range len).map f, rfl, by simp, hl, hm, fun k y hk => ?_⟩
    have hkl : k < len := by have := lt_of_get hk; simpa using this
    have : f k = y := by simp [hkl] at hk; exact hk
    subst this
    obtain ⟨vs, v1, v2, v3⟩ := hf k hkl
    obtain ⟨b, off, spot⟩ := a
    have h0 := v3 0 (vs[0]'(by omega)) (List.getElem?_eq_getElem (by omega))
    have hsp : spot = none := by
      have := World.cell?_spot h0
      unfold Addr.add at this
      by_cases hz : k * sz = 0
      · have h00 := World.cell?_spot h0
        simpa [hz, Addr.add] using h00
      · simp [hz] at this
        by_cases hk0 : spot = none
        · exact hk0
        · exfalso
          obtain ⟨vs', v1', _, v3'⟩ := hf 0 (by omega)
          have h1 := World.cell?_spot (v3' 0 (vs'[0]'(by omega)) (List.getElem?_eq_getElem (by omega)))
          simp [Addr.add] at h1
          exact hk0 h1
    subst hsp
    refine ⟨b, off, vs, rfl, trivial, v1, v2, fun j u hu => ?_⟩
    have := v3 j u hu
    rw [addr_add, addr_add] at this
    exact this

/-- the fields of a struct, each of one cell, with their reach -/
theorem fieldsz_of {t : TypeId} {fs : Array Field} {fuel : Nat} {cs : List Value} {x : DataW H × List MemPlace} (ht : P.underlying t = some (.struct fs)) (hone : oneCellFields P fs = true) (hC : P.cellsOf t = fs.size)
    (h : DataW.trod enc P w base spare held fuel t cs = some x) (hz : ∀ k ∈ x.1.weights P t, k ≤ B) :
    cs.length = fs.size ∧ ∃ n, ∀ (i : Nat) (f : Field), fs[i]? = some f → ∃ v y, cs[i]? = some v ∧ DataW.trod enc P w base spare held n f.type [v] = some y ∧ ∀ k ∈ y.1.weights P f.type, k ≤ B := by
  obtain ⟨xs, n, _, ex, hl, hxl, hf⟩ := DataW.trod_struct ht h
  rw [hC] at hl
  refine ⟨hl, n, fun i f hi => ?_⟩
  obtain ⟨ho, hk⟩ := hone_of hone i f hi
  have hil : i < fs.size := (Array.getElem?_eq_some_iff.1 hi).1
  have h1 := hf i f hi
  rw [ho, hk] at h1
  have hone' : (cs.drop i).take 1 = [cs[i]'(by omega)] := by
    rw [List.drop_eq_getElem_cons (by omega)]
    rfl
  rw [hone'] at h1
  refine ⟨_, _, List.getElem?_eq_getElem (by omega), h1.trans (List.getElem?_eq_getElem (by omega)), fun k hk' => hz k ?_⟩
  rw [ex]
  simp only [DataW.weights, ht]
  exact DataW.weights_mem_each (j := i) (by simp [hi]) (by simp [List.getElem?_eq_getElem (show i < xs.length by omega)]) k hk'
end

section
variable {H : Type} {enc : TypeId × Value → H} {w : World} {base : Nat} {spare : Nat → Bool} {held : Bool} {fuel : Nat} {cs : List Value} {x : DataW H × List MemPlace}
theorem edit_of (h : DataW.trod enc Try.prog w base spare held fuel 37 cs = some x) (hz : ∀ k ∈ x.1.weights Try.prog 37, k ≤ reachBytes) : ∃ e, rEdit top w cs e := by
  obtain ⟨hl, n, hf⟩ := fieldsz_of Try.underlying37 (by kernel_rfl) (by kernel_rfl) h hz
  obtain ⟨v0, y0, d0, t0, _⟩ := hf 0 _ rfl
  obtain ⟨v1, y1, d1, t1, _⟩ := hf 1 _ rfl
  obtain ⟨v2, y2, d2, t2, z2⟩ := hf 2 _ rfl
  obtain ⟨k, e0, _, w0⟩ := DataW.trod_int Try.underlying3 t0
  obtain ⟨j, e1, _, w1⟩ := DataW.trod_int Try.underlying3 t1
  obtain ⟨A1, n1, c1, l1, e2, h1⟩ := runes_of t2
  simp only [List.cons.injEq, and_true] at e0 e1 e2
  subst e0 e1 e2
  have hs := slice_sized (bytes := 4) Try.underlying22 (by kernel_rfl) t2 z2
  refine ⟨⟨k, j, l1⟩, A1, n1, c1, ?_, h1, wf_i64' w0, wf_i64' w1, by omega⟩
  match cs, hl, d0, d1, d2 with
  | [a, b, c], _, d0, d1, d2 => simp at d0 d1 d2; rw [d0, d1, d2]
theorem edits_of (h : DataW.trod enc Try.prog w base spare held fuel 23 cs = some x) (hz : ∀ k ∈ x.1.weights Try.prog 23, k ≤ reachBytes) : ∃ A n c l, cs = [.slice A n c] ∧ Edits w A n c l :=
  slrz_of Try.underlying23 (by kernel_rfl) (by omega) (fun _ _ _ h hz => edit_of h hz) h hz
end

end Go.Proofs.Ytpnflnocmekpnaa
