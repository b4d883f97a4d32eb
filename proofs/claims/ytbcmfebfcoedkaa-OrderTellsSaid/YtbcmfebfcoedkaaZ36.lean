/- Walk: order.Sort's closure; sorting of nothing; numbers of a call's own, turned in place. -/
import Derived.Test.YtbcmfebfcoedkaaZ35
import Derived.Test.YtbcmfebfcoedkaaZ7i
namespace Go.Proofs.Ytbcmfebfcoedkaa
open Go.RowKit Go.Sort
set_option linter.unusedVariables false
set_option linter.unusedSimpArgs false

/-! ### a row of numbers of the call's own, turned in place -/
theorem own_holdsI {e : TypeId} {base : Nat} {w : World} {v : Value} {l : List Int} (h : OwnR rInt e 1 base w v l) :
    (l = [] ∧ v = .slice none 0 0) ∨ ∃ g cap, v = .slice (some ⟨g, 0, none⟩) l.length cap ∧ base ≤ g ∧ g < w.heap.size ∧ Holds (Value.int .i64) w g 0 l.toArray ∧ l.length ≤ cap ∧ cap ≤ maxLen := by
  have hlt := h.lt
  obtain ⟨A, c, hv, hs⟩ := h.top
  obtain ⟨xs, ⟨hl, h | ⟨g, cap, cur, rfl, hb, hh, h1, h2, h3, h4⟩⟩, he⟩ := h
  · left; exact ⟨List.eq_nil_of_length_eq_zero h.2, h.1⟩
  · right
    refine ⟨g, cap, rfl, hb, (hlt g rfl).2, fun j hj => ?_, h1, h2⟩
    have hj' : j < l.length := by simpa using hj
    injection hv with e1 e2 e3
    subst e1
    obtain ⟨b, off, e4, _, hc, _⟩ := hs.int (List.getElem?_eq_getElem hj')
    have e5 := Option.some.inj e4
    simp only [Addr.mk.injEq] at e5
    obtain ⟨rfl, rfl, _⟩ := e5
    refine ⟨?_, ?_⟩
    · rw [toArray_get, List.getD_eq_getElem?_getD, List.getElem?_eq_getElem hj']; simpa using hc
    · simp [World.frozen?, hh]
theorem holds_ownI {e : TypeId} {base : Nat} {w w' : World} {v : Value} {l l' : List Int} {g cap : Nat} (h : OwnR rInt e 1 base w v l) (hv : v = .slice (some ⟨g, 0, none⟩) l.length cap) (hl : l'.length = l.length) (hi : ∀ r ∈ l', i64 r)
    (hx : Ext (putRow (Value.int .i64) w g 0 l'.toArray) w') : OwnR rInt e 1 base w' v l' := by
  obtain ⟨xs, ⟨hxl, h | ⟨g', cap', cur, e1, hb, hh, h1, h2, h3, h4⟩⟩, he⟩ := h
  · rw [hv] at h; obtain ⟨h, _⟩ := h; cases h
  · rw [hv] at e1
    injection e1 with e1 e2 e3
    injection e1 with e1
    injection e1 with e1
    subst e1 e3
    have hg : g < w.heap.size := (Array.getElem?_eq_some_iff.1 hh).1
    have hp : (putRow (Value.int .i64) w g 0 l'.toArray).heap[g]? = some (.cells (putCells (Value.int .i64) 0 l'.toArray cur) e (0, 0)) := by
      simp [putRow, mapBlock, Array.getElem?_modify, hh, onCells]
    have hp' := (hx.block (b := g) (by rw [size_put]; exact hg)).trans hp
    refine ⟨l'.map (Value.int .i64), ⟨by simp, .inr ⟨g, cap, _, by rw [hv, hl], hb, hp', by rw [hl]; exact h1, h2, by simp [putCells, h3], ?_⟩⟩, ?_⟩
    · apply List.ext_getElem?
      intro k
      rw [List.getElem?_take]
      by_cases hk : k < l'.length * 1
      · rw [if_pos hk]
        have hk' : k < cur.size := by omega
        have hk2 : k < l'.length := by omega
        simp only [putCells, Array.getElem?_toList, Array.getElem?_mapIdx, Array.getElem?_eq_getElem hk', Option.map_some, List.getElem?_map]
        rw [if_pos ⟨by omega, by simp; omega⟩, toArray_get, Nat.sub_zero, List.getD_eq_getElem?_getD, List.getElem?_eq_getElem hk2]
        rfl
      · rw [if_neg hk, List.getElem?_map, List.getElem?_eq_none (by omega)]; rfl
    · refine Enc.of_get _ _ (by simp) ?_
      intro k x hx'
      refine ⟨[.int .i64 x], rfl, ⟨rfl, hi x (List.mem_of_getElem? hx')⟩, fun j u hu => ?_⟩
      match j, hu with
      | 0, hu =>
        simp only [List.getElem?_cons_zero, Option.some.injEq] at hu
        subst hu
        simp [hx']

/-! ### plain -/
def cfL (l : List (List Int)) (x y : Int) : Int := ord3 (apartV (l.getD x.toNat [])) (apartV (l.getD y.toNat []))
theorem clL (l : List (List Int)) : CL (cfL l) := cl3.on fun x : Int => apartV (l.getD x.toNat [])
def idxs (n : Nat) : List Int := (List.range n).map fun i : Nat => (i : Int)
theorem idxs_snoc (k : Nat) : idxs (k + 1) = idxs k ++ [(k : Int)] := by simp [idxs, List.range_succ]
theorem idxs_len (k : Nat) : (idxs k).length = k := by simp [idxs]
theorem idxs_mem {n : Nat} {x : Int} (h : x ∈ idxs n) : 0 ≤ x ∧ x < n := by
  simp only [idxs, List.mem_map, List.mem_range] at h
  obtain ⟨i, hi, rfl⟩ := h
  omega

/-! ### the closure -/
set_option maxRecDepth 1000000 in
set_option maxHeartbeats 1600000 in
theorem sortAt_any (H : Nat) (A : Option Addr) (n c : Nat) (l : List (List Int)) (i j : Nat) (hi : i < n) (hj : j < n) (W : World) (hbox : W.cell? ⟨H, 0, none⟩ = some (.slice A n c)) (hT : Texts W A n c l) (hall : ∀ t ∈ l, apartE t = 0) :
    Calls Try.prog 39 #[.int .i64 i, .int .i64 j, .pointer (some ⟨H, 0, none⟩)] W fun e w' => e = .returned (.int .i64 (cfL l i j)) ∧ Ext W w' := by
  obtain ⟨a, ha⟩ := hT.idx hi
  obtain ⟨b, hb⟩ := hT.idx hj
  have ea : apartE a = 0 := hall a (List.mem_of_getElem? ha)
  have eb : apartE b = 0 := hall b (List.mem_of_getElem? hb)
  have hV : cfL l i j = cmpV a b := by
    unfold cfL cmpV
    rw [if_pos ⟨ea, eb⟩, Int.toNat_natCast, Int.toNat_natCast, List.getD_eq_getElem?_getD, List.getD_eq_getElem?_getD, ha, hb]; rfl
  have hE : cmpE a b = 0 := by unfold cmpE; rw [if_pos ea]; exact eb
  obtain ⟨B1, o1, A1, n1, c1, rfl, hlt1, k1, s1⟩ := hT.sl ha
  obtain ⟨B2, o2, A2, n2, c2, e2, hlt2, k2, s2⟩ := hT.sl hb
  have e3 := Option.some.inj e2
  simp only [Addr.mk.injEq] at e3
  obtain ⟨rfl, rfl, _⟩ := e3
  have C := fun p : Far W => Compare_any A1 A2 n1 c1 n2 c2 a b p.out (Runes.ext s1 p.ext) (Runes.ext s2 p.ext)
  simp only [hE] at C
  rw [hV]
  generalize cmpV a b = R at *
  have kb := fun p : Far W => p.ext.cell hbox
  have j1 := fun p : Far W => p.ext.cell k1
  have j2 := fun p : Far W => p.ext.cell k2
  have gi : (i : Int) < (n : Int) := by omega
  have gj : (j : Int) < (n : Int) := by omega
  clear hT ha hb ea eb hE hV hall hbox s1 s2 k1 k2 e2 hlt2
  go_enter Try.func39, Try.ntmps39
  go_wp2
  refine wp_region_far (by kernel_rfl) (by kernel_rfl) ?_
  repeat (quiet_step (first | (go_at_call 19; refine Calls.far_of (C _))))
  refine wpQuiet_nil ?_
  intro w5 hw'
  obtain ⟨pf, hw5⟩ := hw'
  have hx2 : Ext W w5 := by rw [hw5]; exact pf.ext
  clear hw5 pf kb j1 j2 C
  go_wp2
  go_ret
  exact ⟨rfl, hx2⟩
theorem sortAt_cmp {w1 w0 : World} {b off : Nat} {L0 : List Int} {H n c : Nat} {A : Option Addr} {l : List (List Int)} (hx : Ext w1 w0) (hb : w1.heap.size ≤ b) (hbox : w1.cell? ⟨H, 0, none⟩ = some (.slice A n c)) (hT : Texts w1 A n c l) (hall : ∀ t ∈ l, apartE t = 0) :
    CmpX Try.prog 39 #[.pointer (some ⟨H, 0, none⟩)] .i64 (cfL l) w0 b off L0 (fun x => 0 ≤ x ∧ x < n) := by
  intro L W S x y ⟨hx0, hx1⟩ ⟨hy0, hy1⟩
  have e : Ext w1 W := (ext_put hx hb _).trans S.ext
  obtain ⟨i, rfl⟩ : ∃ i : Nat, x = i := ⟨x.toNat, by omega⟩
  obtain ⟨j, rfl⟩ : ∃ j : Nat, y = j := ⟨y.toNat, by omega⟩
  exact sortAt_any H A n c l i j (by omega) (by omega) W (e.cell hbox) (hT.ext e) hall

/-! ### sorting of nothing -/
set_option maxHeartbeats 1600000 in
theorem ins_none (f : Value) (w : World) : Calls Try.prog 54 #[.slice none 0 0, .int .i64 0, .int .i64 0, f] w fun e w' => e = .returned (.tuple #[]) ∧ w' = w := by
  go_enter Try.func54, Try.ntmps54
  go_wp2
  go_loopw [8] (fun v wr => v = .int .i64 1 ∧ wr = w) (fun _ _ => 0)
  case atStart => exact ⟨rfl, rfl⟩
  case round =>
    obtain ⟨rfl, rfl⟩ := hrel
    go_wp2
    go_end0
    exact ⟨rfl, rfl⟩
set_option maxHeartbeats 1600000 in
theorem stable_none (f : Value) (w : World) : Calls Try.prog 49 #[.slice none 0 0, .int .i64 0, f] w fun e w' => e = .returned (.tuple #[]) ∧ w' = w := by
  have C := Lib.hid (ins_none f w)
  go_enter Try.func49, Try.ntmps49
  go_wp2
  go_loopw [7, 8] (fun va vb wr => va = .int .i64 0 ∧ vb = .int .i64 20 ∧ wr = w) (fun _ _ _ => 0)
  case atStart => exact ⟨rfl, rfl, rfl⟩
  case round =>
    obtain ⟨rfl, rfl, rfl⟩ := hrel
    go_wp2_with (go_at_call 54; ((with_reducible refine C.out.mono ?_); rintro _ w4 ⟨rfl, rfl⟩))
    go_loopw [6] (fun v wr => v = .int .i64 20 ∧ wr = w4) (fun _ _ => 0)
    case atStart => exact ⟨rfl, rfl⟩
    case round =>
      obtain ⟨rfl, rfl⟩ := hrel
      go_wp2
      go_end0
      exact ⟨rfl, rfl⟩
set_option maxHeartbeats 1600000 in
theorem SortStable_none (f : Value) (w : World) : Calls Try.prog 38 #[.slice none 0 0, f] w fun e w' => e = .returned (.tuple #[]) ∧ w' = w := by
  have C := Lib.hid (stable_none f w)
  go_enter Try.func38, Try.ntmps38
  go_wp2_with (go_at_call 49; ((with_reducible refine C.out.mono ?_); rintro _ w4 ⟨rfl, rfl⟩))
  go_end0
  exact ⟨rfl, rfl⟩

end Go.Proofs.Ytbcmfebfcoedkaa
