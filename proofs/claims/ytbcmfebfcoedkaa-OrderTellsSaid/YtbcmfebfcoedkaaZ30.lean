/- Walks: small letters, of the program and of the document. -/
import Derived.Test.YtbcmfebfcoedkaaZ20
namespace Go.Proofs.Ytbcmfebfcoedkaa
open Go.RowKit
set_option linter.unusedVariables false
set_option linter.unusedSimpArgs false

/-- rows of letters: the first and the last small one, and how far the great ones are ahead -/
def lrowsL : List Pr := [⟨97, 122, 32⟩, ⟨224, 246, 32⟩, ⟨248, 254, 32⟩, ⟨945, 961, 32⟩, ⟨963, 969, 32⟩, ⟨1072, 1103, 32⟩, ⟨1104, 1119, 80⟩]
def lowerI (r : Int) : Int := if (65 ≤ r ∧ r ≤ 90) ∨ (192 ≤ r ∧ r ≤ 214) ∨ (216 ≤ r ∧ r ≤ 222) ∨ (913 ≤ r ∧ r ≤ 929) ∨ (931 ≤ r ∧ r ≤ 937) ∨ (1040 ≤ r ∧ r ≤ 1071) then r + 32 else if 1024 ≤ r ∧ r ≤ 1039 then r + 80 else r
def Hit (p : Pr) (r : Int) : Prop := p.base - p.whole ≤ r ∧ r ≤ p.mark - p.whole
theorem lower_at {k : Nat} {p : Pr} {r : Int} (h : lrowsL[k]? = some p) (hh : Hit p r) : lowerI r = r + p.whole := by
  have hk : k < 7 := lt_of_get h
  unfold Hit at hh
  match k, hk with
  | 0, _ | 1, _ | 2, _ | 3, _ | 4, _ | 5, _ =>
    have := Option.some.inj h
    subst this
    simp only at hh ⊢
    unfold lowerI
    rw [if_pos (by omega)]
  | 6, _ =>
    have := Option.some.inj h
    subst this
    simp only at hh ⊢
    unfold lowerI
    rw [if_neg (by omega), if_pos (by omega)]
theorem lower_out {r : Int} (h : ∀ q ∈ lrowsL, ¬ Hit q r) : lowerI r = r := by
  have h0 := h ⟨97, 122, 32⟩ (by simp [lrowsL]); have h1 := h ⟨224, 246, 32⟩ (by simp [lrowsL]); have h2 := h ⟨248, 254, 32⟩ (by simp [lrowsL]); have h3 := h ⟨945, 961, 32⟩ (by simp [lrowsL])
  have h4 := h ⟨963, 969, 32⟩ (by simp [lrowsL]); have h5 := h ⟨1072, 1103, 32⟩ (by simp [lrowsL]); have h6 := h ⟨1104, 1119, 80⟩ (by simp [lrowsL])
  simp only [Hit] at h0 h1 h2 h3 h4 h5 h6
  unfold lowerI
  rw [if_neg (by omega), if_neg (by omega)]
theorem lrows_low {p : Pr} (h : p ∈ lrowsL) : 0 ≤ p.base ∧ p.base ≤ 2000 ∧ 0 ≤ p.mark ∧ p.mark ≤ 2000 ∧ 0 ≤ p.whole ∧ p.whole ≤ 80 := by
  simp only [lrowsL, List.mem_cons, List.not_mem_nil, or_false] at h
  rcases h with rfl | rfl | rfl | rfl | rfl | rfl | rfl <;> simp
theorem lower_i32 {r : Int} (h : i32 r) : i32 (lowerI r) := by
  have := h.1; have := h.2
  unfold lowerI
  split
  · exact ⟨by omega, by omega⟩
  · split
    · exact ⟨by omega, by omega⟩
    · exact h
theorem wrap32 {x : Int} (h : -2147483648 ≤ x) (h' : x ≤ 2147483647) : IntKind.i32.wrap x = x := by
  exact IntWalk.i32_in _ (by omega)

def lrowCells : List Value := lrowsL.flatMap fun p => [.int .i32 p.base, .int .i32 p.mark, .int .i32 p.whole]
theorem lrows_new (w : World) (t : TypeId) : Pairs (w.alloc (.cells lrowCells.toArray t)) (some ⟨w.heap.size, 0, none⟩) 7 7 lrowsL := by
  refine SlR.fresh rfl (by unfold maxLen; omega) fun k x hx => ?_
  refine ⟨[.int .i32 x.base, .int .i32 x.mark, .int .i32 x.whole], rfl, rfl, fun j u hu => ?_⟩
  have hk : k < 7 := lt_of_get hx
  match k, hk with
  | 0, _ | 1, _ | 2, _ | 3, _ | 4, _ | 5, _ | 6, _ =>
    have hx' := Option.some.inj hx
    subst hx'
    match j, hu with
    | 0, hu => exact hu
    | 1, hu => exact hu
    | 2, hu => exact hu

set_option maxRecDepth 1000000 in
set_option maxHeartbeats 1600000 in
theorem lrows_any (w : World) : Calls Try.prog 48 #[] w fun e w' => ∃ A c, e = .returned (.slice A 7 c) ∧ Pairs w' A 7 c lrowsL ∧ Ext w w' := by
  have H := Lib.hid (lrows_new w 82)
  have E := Lib.hid ((Ext.refl w).alloc (.cells lrowCells.toArray 82))
  go_enter Try.func48, Try.ntmps48
  go_wp2
  go_ret
  exact ⟨_, _, rfl, H.out, E.out⟩

set_option maxRecDepth 1000000 in
set_option maxHeartbeats 3200000 in
theorem Lower_any (r : Int) (w : World) (hr : i32 r) : Calls Try.prog 34 #[.int .i32 r] w fun e w' => e = .returned (.int .i32 (lowerI r)) ∧ Ext w w' := by
  have C := Lib.hid (lrows_any w)
  have hr1 := hr.1; have hr2 := hr.2
  clear hr
  go_enter Try.func34, Try.ntmps34
  go_wp2_with (go_at_call 48; refine C.out.mono ?_; rintro e w1 ⟨A, c, rfl, ht, x1⟩)
  have HT := Lib.hid ht; clear ht
  have X1 := Lib.hid x1; clear x1
  clear C
  go_loopw [7] (fun vi wr => ∃ k : Nat, vi = .int .i64 k ∧ k ≤ 7 ∧ Hid (∀ q ∈ lrowsL.take k, ¬ Hit q r) ∧ Hid (Ext w1 wr)) (fun vi _ => 7 - (intOf vi).toNat)
  case atStart => exact ⟨0, rfl, by omega, Lib.hid (fun q hq => by simp at hq), Lib.hid (Ext.refl _)⟩
  case round =>
    obtain ⟨k, rfl, hk, HB, HX⟩ := hrel
    by_cases hlt : k < 7
    · have gz : (k : Int) < 7 := by omega
      obtain ⟨p, hp⟩ : ∃ p, lrowsL[k]? = some p := ⟨_, List.getElem?_eq_getElem (show k < lrowsL.length from hlt)⟩
      have hT : Pairs wr A 7 c lrowsL := SlR.ext (keep_pair top) HT.out HX.out
      obtain ⟨bb, off, rfl, hbb, p0, p1, p2⟩ := hT.pair hp
      obtain ⟨l1, l2, l3, l4, l5, l6⟩ := lrows_low (List.mem_of_getElem? hp)
      have Y5 := Lib.hid (HX.out.alloc (.cells #[.int .i32 p.base, .int .i32 p.mark, .int .i32 p.whole] 82))
      have HP := Lib.hid hp
      have w1' : IntKind.i32.wrap (p.base - p.whole) = p.base - p.whole := wrap32 (by omega) (by omega)
      have w2' : IntKind.i32.wrap (p.mark - p.whole) = p.mark - p.whole := wrap32 (by omega) (by omega)
      clear hp hT
      by_cases h1 : p.base - p.whole ≤ r
      · have q1 : decide (p.base - p.whole ≤ r) = true := decide_eq_true h1
        by_cases h2 : r ≤ p.mark - p.whole
        · have q2 : decide (r ≤ p.mark - p.whole) = true := decide_eq_true h2
          have HJ := Lib.hid (lower_at HP.out ⟨h1, h2⟩)
          have w3' : IntKind.i32.wrap (r + p.whole) = r + p.whole := wrap32 (by omega) (by omega)
          go_wp2
          go_ret
          rw [HJ.out]
          exact ⟨rfl, X1.out.trans Y5.out⟩
        · have q2 : decide (r ≤ p.mark - p.whole) = false := decide_eq_false h2
          have HB2 := Lib.hid (show ∀ q ∈ lrowsL.take (k + 1), ¬ Hit q r from by
            intro q hq
            rw [take_snoc HP.out] at hq
            rcases List.mem_append.1 hq with hq | hq
            · exact HB.out q hq
            · simp at hq; subst hq; exact fun h => h2 h.2)
          go_wp2
          go_roundw
          case rel => exact ⟨k + 1, by go_num, by omega, HB2, Y5⟩
          case measure => simp [intOf]; omega
      · have q1 : decide (p.base - p.whole ≤ r) = false := decide_eq_false h1
        have HB2 := Lib.hid (show ∀ q ∈ lrowsL.take (k + 1), ¬ Hit q r from by
          intro q hq
          rw [take_snoc HP.out] at hq
          rcases List.mem_append.1 hq with hq | hq
          · exact HB.out q hq
          · simp at hq; subst hq; exact fun h => h1 h.1)
        go_wp2
        go_roundw
        case rel => exact ⟨k + 1, by go_num, by omega, HB2, Y5⟩
        case measure => simp [intOf]; omega
    · have gz : ¬ (k : Int) < 7 := by omega
      have hB := HB.out
      rw [List.take_of_length_le (show lrowsL.length ≤ k by show 7 ≤ k; omega)] at hB
      have HJ := Lib.hid (lower_out hB)
      clear hB
      go_wp2
      go_ret
      rw [HJ.out]
      exact ⟨rfl, X1.out.trans HX.out⟩

set_option maxHeartbeats 3200000 in
theorem refLower_any (r : Int) (w : World) (hr : i32 r) : Calls Try.prog 35 #[.int .i32 r] w fun e w' => e = .returned (.int .i32 (lowerI r)) ∧ Ext w w' := by
  have hr1 := hr.1; have hr2 := hr.2
  clear hr
  by_cases hc : r ≤ 64
  · have HV := Lib.hid (show lowerI r = r by unfold lowerI; rw [if_neg (by omega), if_neg (by omega)])
    have t0 : ¬ 65 ≤ r := by omega
    have d0 : decide (65 ≤ r) = false := decide_eq_false t0
    have t1 : r ≤ 90 := by omega
    have d1 : decide (r ≤ 90) = true := decide_eq_true t1
    have t2 : ¬ 192 ≤ r := by omega
    have d2 : decide (192 ≤ r) = false := decide_eq_false t2
    have t3 : r ≤ 222 := by omega
    have d3 : decide (r ≤ 222) = true := decide_eq_true t3
    have t4 : ¬ 913 ≤ r := by omega
    have d4 : decide (913 ≤ r) = false := decide_eq_false t4
    have t5 : r ≤ 937 := by omega
    have d5 : decide (r ≤ 937) = true := decide_eq_true t5
    have t6 : ¬ 1040 ≤ r := by omega
    have d6 : decide (1040 ≤ r) = false := decide_eq_false t6
    have t7 : r ≤ 1071 := by omega
    have d7 : decide (r ≤ 1071) = true := decide_eq_true t7
    have t8 : ¬ 1024 ≤ r := by omega
    have d8 : decide (1024 ≤ r) = false := decide_eq_false t8
    have t9 : r ≤ 1039 := by omega
    have d9 : decide (r ≤ 1039) = true := decide_eq_true t9
    have n215 : (r != 215) = true := by simp; omega
    have m215 : ¬ r = 215 := by omega
    have n930 : (r != 930) = true := by simp; omega
    have m930 : ¬ r = 930 := by omega
    clear hc
    go_enter Try.func35, Try.ntmps35
    go_wp2
    go_ret
    rw [HV.out]
    exact ⟨rfl, Ext.refl _⟩
  by_cases hc : 65 ≤ r ∧ r ≤ 90
  · have HV := Lib.hid (show lowerI r = r + 32 by unfold lowerI; rw [if_pos (by omega)])
    have t0 : 65 ≤ r := by omega
    have d0 : decide (65 ≤ r) = true := decide_eq_true t0
    have t1 : r ≤ 90 := by omega
    have d1 : decide (r ≤ 90) = true := decide_eq_true t1
    have t2 : ¬ 192 ≤ r := by omega
    have d2 : decide (192 ≤ r) = false := decide_eq_false t2
    have t3 : r ≤ 222 := by omega
    have d3 : decide (r ≤ 222) = true := decide_eq_true t3
    have t4 : ¬ 913 ≤ r := by omega
    have d4 : decide (913 ≤ r) = false := decide_eq_false t4
    have t5 : r ≤ 937 := by omega
    have d5 : decide (r ≤ 937) = true := decide_eq_true t5
    have t6 : ¬ 1040 ≤ r := by omega
    have d6 : decide (1040 ≤ r) = false := decide_eq_false t6
    have t7 : r ≤ 1071 := by omega
    have d7 : decide (r ≤ 1071) = true := decide_eq_true t7
    have t8 : ¬ 1024 ≤ r := by omega
    have d8 : decide (1024 ≤ r) = false := decide_eq_false t8
    have t9 : r ≤ 1039 := by omega
    have d9 : decide (r ≤ 1039) = true := decide_eq_true t9
    have n215 : (r != 215) = true := by simp; omega
    have m215 : ¬ r = 215 := by omega
    have n930 : (r != 930) = true := by simp; omega
    have m930 : ¬ r = 930 := by omega
    have w0 : IntKind.i32.wrap (r + 32) = r + 32 := IntWalk.i32_in _ (by omega)
    clear hc
    go_enter Try.func35, Try.ntmps35
    go_wp2
    go_ret
    rw [HV.out]
    exact ⟨rfl, Ext.refl _⟩
  by_cases hc : 91 ≤ r ∧ r ≤ 191
  · have HV := Lib.hid (show lowerI r = r by unfold lowerI; rw [if_neg (by omega), if_neg (by omega)])
    have t0 : 65 ≤ r := by omega
    have d0 : decide (65 ≤ r) = true := decide_eq_true t0
    have t1 : ¬ r ≤ 90 := by omega
    have d1 : decide (r ≤ 90) = false := decide_eq_false t1
    have t2 : ¬ 192 ≤ r := by omega
    have d2 : decide (192 ≤ r) = false := decide_eq_false t2
    have t3 : r ≤ 222 := by omega
    have d3 : decide (r ≤ 222) = true := decide_eq_true t3
    have t4 : ¬ 913 ≤ r := by omega
    have d4 : decide (913 ≤ r) = false := decide_eq_false t4
    have t5 : r ≤ 937 := by omega
    have d5 : decide (r ≤ 937) = true := decide_eq_true t5
    have t6 : ¬ 1040 ≤ r := by omega
    have d6 : decide (1040 ≤ r) = false := decide_eq_false t6
    have t7 : r ≤ 1071 := by omega
    have d7 : decide (r ≤ 1071) = true := decide_eq_true t7
    have t8 : ¬ 1024 ≤ r := by omega
    have d8 : decide (1024 ≤ r) = false := decide_eq_false t8
    have t9 : r ≤ 1039 := by omega
    have d9 : decide (r ≤ 1039) = true := decide_eq_true t9
    have n215 : (r != 215) = true := by simp; omega
    have m215 : ¬ r = 215 := by omega
    have n930 : (r != 930) = true := by simp; omega
    have m930 : ¬ r = 930 := by omega
    clear hc
    go_enter Try.func35, Try.ntmps35
    go_wp2
    go_ret
    rw [HV.out]
    exact ⟨rfl, Ext.refl _⟩
  by_cases hc : 192 ≤ r ∧ r ≤ 214
  · have HV := Lib.hid (show lowerI r = r + 32 by unfold lowerI; rw [if_pos (by omega)])
    have t0 : 65 ≤ r := by omega
    have d0 : decide (65 ≤ r) = true := decide_eq_true t0
    have t1 : ¬ r ≤ 90 := by omega
    have d1 : decide (r ≤ 90) = false := decide_eq_false t1
    have t2 : 192 ≤ r := by omega
    have d2 : decide (192 ≤ r) = true := decide_eq_true t2
    have t3 : r ≤ 222 := by omega
    have d3 : decide (r ≤ 222) = true := decide_eq_true t3
    have t4 : ¬ 913 ≤ r := by omega
    have d4 : decide (913 ≤ r) = false := decide_eq_false t4
    have t5 : r ≤ 937 := by omega
    have d5 : decide (r ≤ 937) = true := decide_eq_true t5
    have t6 : ¬ 1040 ≤ r := by omega
    have d6 : decide (1040 ≤ r) = false := decide_eq_false t6
    have t7 : r ≤ 1071 := by omega
    have d7 : decide (r ≤ 1071) = true := decide_eq_true t7
    have t8 : ¬ 1024 ≤ r := by omega
    have d8 : decide (1024 ≤ r) = false := decide_eq_false t8
    have t9 : r ≤ 1039 := by omega
    have d9 : decide (r ≤ 1039) = true := decide_eq_true t9
    have n215 : (r != 215) = true := by simp; omega
    have m215 : ¬ r = 215 := by omega
    have n930 : (r != 930) = true := by simp; omega
    have m930 : ¬ r = 930 := by omega
    have w0 : IntKind.i32.wrap (r + 32) = r + 32 := IntWalk.i32_in _ (by omega)
    clear hc
    go_enter Try.func35, Try.ntmps35
    go_wp2
    go_ret
    rw [HV.out]
    exact ⟨rfl, Ext.refl _⟩
  by_cases hc : 215 ≤ r ∧ r ≤ 215
  · have HV := Lib.hid (show lowerI r = r by unfold lowerI; rw [if_neg (by omega), if_neg (by omega)])
    have e : r = 215 := by omega
    subst e
    clear hc
    go_enter Try.func35, Try.ntmps35
    go_wp2
    go_ret
    rw [HV.out]
    exact ⟨rfl, Ext.refl _⟩
  by_cases hc : 216 ≤ r ∧ r ≤ 222
  · have HV := Lib.hid (show lowerI r = r + 32 by unfold lowerI; rw [if_pos (by omega)])
    have t0 : 65 ≤ r := by omega
    have d0 : decide (65 ≤ r) = true := decide_eq_true t0
    have t1 : ¬ r ≤ 90 := by omega
    have d1 : decide (r ≤ 90) = false := decide_eq_false t1
    have t2 : 192 ≤ r := by omega
    have d2 : decide (192 ≤ r) = true := decide_eq_true t2
    have t3 : r ≤ 222 := by omega
    have d3 : decide (r ≤ 222) = true := decide_eq_true t3
    have t4 : ¬ 913 ≤ r := by omega
    have d4 : decide (913 ≤ r) = false := decide_eq_false t4
    have t5 : r ≤ 937 := by omega
    have d5 : decide (r ≤ 937) = true := decide_eq_true t5
    have t6 : ¬ 1040 ≤ r := by omega
    have d6 : decide (1040 ≤ r) = false := decide_eq_false t6
    have t7 : r ≤ 1071 := by omega
    have d7 : decide (r ≤ 1071) = true := decide_eq_true t7
    have t8 : ¬ 1024 ≤ r := by omega
    have d8 : decide (1024 ≤ r) = false := decide_eq_false t8
    have t9 : r ≤ 1039 := by omega
    have d9 : decide (r ≤ 1039) = true := decide_eq_true t9
    have n215 : (r != 215) = true := by simp; omega
    have m215 : ¬ r = 215 := by omega
    have n930 : (r != 930) = true := by simp; omega
    have m930 : ¬ r = 930 := by omega
    have w0 : IntKind.i32.wrap (r + 32) = r + 32 := IntWalk.i32_in _ (by omega)
    clear hc
    go_enter Try.func35, Try.ntmps35
    go_wp2
    go_ret
    rw [HV.out]
    exact ⟨rfl, Ext.refl _⟩
  by_cases hc : 223 ≤ r ∧ r ≤ 912
  · have HV := Lib.hid (show lowerI r = r by unfold lowerI; rw [if_neg (by omega), if_neg (by omega)])
    have t0 : 65 ≤ r := by omega
    have d0 : decide (65 ≤ r) = true := decide_eq_true t0
    have t1 : ¬ r ≤ 90 := by omega
    have d1 : decide (r ≤ 90) = false := decide_eq_false t1
    have t2 : 192 ≤ r := by omega
    have d2 : decide (192 ≤ r) = true := decide_eq_true t2
    have t3 : ¬ r ≤ 222 := by omega
    have d3 : decide (r ≤ 222) = false := decide_eq_false t3
    have t4 : ¬ 913 ≤ r := by omega
    have d4 : decide (913 ≤ r) = false := decide_eq_false t4
    have t5 : r ≤ 937 := by omega
    have d5 : decide (r ≤ 937) = true := decide_eq_true t5
    have t6 : ¬ 1040 ≤ r := by omega
    have d6 : decide (1040 ≤ r) = false := decide_eq_false t6
    have t7 : r ≤ 1071 := by omega
    have d7 : decide (r ≤ 1071) = true := decide_eq_true t7
    have t8 : ¬ 1024 ≤ r := by omega
    have d8 : decide (1024 ≤ r) = false := decide_eq_false t8
    have t9 : r ≤ 1039 := by omega
    have d9 : decide (r ≤ 1039) = true := decide_eq_true t9
    have n215 : (r != 215) = true := by simp; omega
    have m215 : ¬ r = 215 := by omega
    have n930 : (r != 930) = true := by simp; omega
    have m930 : ¬ r = 930 := by omega
    clear hc
    go_enter Try.func35, Try.ntmps35
    go_wp2
    go_ret
    rw [HV.out]
    exact ⟨rfl, Ext.refl _⟩
  by_cases hc : 913 ≤ r ∧ r ≤ 929
  · have HV := Lib.hid (show lowerI r = r + 32 by unfold lowerI; rw [if_pos (by omega)])
    have t0 : 65 ≤ r := by omega
    have d0 : decide (65 ≤ r) = true := decide_eq_true t0
    have t1 : ¬ r ≤ 90 := by omega
    have d1 : decide (r ≤ 90) = false := decide_eq_false t1
    have t2 : 192 ≤ r := by omega
    have d2 : decide (192 ≤ r) = true := decide_eq_true t2
    have t3 : ¬ r ≤ 222 := by omega
    have d3 : decide (r ≤ 222) = false := decide_eq_false t3
    have t4 : 913 ≤ r := by omega
    have d4 : decide (913 ≤ r) = true := decide_eq_true t4
    have t5 : r ≤ 937 := by omega
    have d5 : decide (r ≤ 937) = true := decide_eq_true t5
    have t6 : ¬ 1040 ≤ r := by omega
    have d6 : decide (1040 ≤ r) = false := decide_eq_false t6
    have t7 : r ≤ 1071 := by omega
    have d7 : decide (r ≤ 1071) = true := decide_eq_true t7
    have t8 : ¬ 1024 ≤ r := by omega
    have d8 : decide (1024 ≤ r) = false := decide_eq_false t8
    have t9 : r ≤ 1039 := by omega
    have d9 : decide (r ≤ 1039) = true := decide_eq_true t9
    have n215 : (r != 215) = true := by simp; omega
    have m215 : ¬ r = 215 := by omega
    have n930 : (r != 930) = true := by simp; omega
    have m930 : ¬ r = 930 := by omega
    have w0 : IntKind.i32.wrap (r + 32) = r + 32 := IntWalk.i32_in _ (by omega)
    clear hc
    go_enter Try.func35, Try.ntmps35
    go_wp2
    go_ret
    rw [HV.out]
    exact ⟨rfl, Ext.refl _⟩
  by_cases hc : 930 ≤ r ∧ r ≤ 930
  · have HV := Lib.hid (show lowerI r = r by unfold lowerI; rw [if_neg (by omega), if_neg (by omega)])
    have e : r = 930 := by omega
    subst e
    clear hc
    go_enter Try.func35, Try.ntmps35
    go_wp2
    go_ret
    rw [HV.out]
    exact ⟨rfl, Ext.refl _⟩
  by_cases hc : 931 ≤ r ∧ r ≤ 937
  · have HV := Lib.hid (show lowerI r = r + 32 by unfold lowerI; rw [if_pos (by omega)])
    have t0 : 65 ≤ r := by omega
    have d0 : decide (65 ≤ r) = true := decide_eq_true t0
    have t1 : ¬ r ≤ 90 := by omega
    have d1 : decide (r ≤ 90) = false := decide_eq_false t1
    have t2 : 192 ≤ r := by omega
    have d2 : decide (192 ≤ r) = true := decide_eq_true t2
    have t3 : ¬ r ≤ 222 := by omega
    have d3 : decide (r ≤ 222) = false := decide_eq_false t3
    have t4 : 913 ≤ r := by omega
    have d4 : decide (913 ≤ r) = true := decide_eq_true t4
    have t5 : r ≤ 937 := by omega
    have d5 : decide (r ≤ 937) = true := decide_eq_true t5
    have t6 : ¬ 1040 ≤ r := by omega
    have d6 : decide (1040 ≤ r) = false := decide_eq_false t6
    have t7 : r ≤ 1071 := by omega
    have d7 : decide (r ≤ 1071) = true := decide_eq_true t7
    have t8 : ¬ 1024 ≤ r := by omega
    have d8 : decide (1024 ≤ r) = false := decide_eq_false t8
    have t9 : r ≤ 1039 := by omega
    have d9 : decide (r ≤ 1039) = true := decide_eq_true t9
    have n215 : (r != 215) = true := by simp; omega
    have m215 : ¬ r = 215 := by omega
    have n930 : (r != 930) = true := by simp; omega
    have m930 : ¬ r = 930 := by omega
    have w0 : IntKind.i32.wrap (r + 32) = r + 32 := IntWalk.i32_in _ (by omega)
    clear hc
    go_enter Try.func35, Try.ntmps35
    go_wp2
    go_ret
    rw [HV.out]
    exact ⟨rfl, Ext.refl _⟩
  by_cases hc : 938 ≤ r ∧ r ≤ 1023
  · have HV := Lib.hid (show lowerI r = r by unfold lowerI; rw [if_neg (by omega), if_neg (by omega)])
    have t0 : 65 ≤ r := by omega
    have d0 : decide (65 ≤ r) = true := decide_eq_true t0
    have t1 : ¬ r ≤ 90 := by omega
    have d1 : decide (r ≤ 90) = false := decide_eq_false t1
    have t2 : 192 ≤ r := by omega
    have d2 : decide (192 ≤ r) = true := decide_eq_true t2
    have t3 : ¬ r ≤ 222 := by omega
    have d3 : decide (r ≤ 222) = false := decide_eq_false t3
    have t4 : 913 ≤ r := by omega
    have d4 : decide (913 ≤ r) = true := decide_eq_true t4
    have t5 : ¬ r ≤ 937 := by omega
    have d5 : decide (r ≤ 937) = false := decide_eq_false t5
    have t6 : ¬ 1040 ≤ r := by omega
    have d6 : decide (1040 ≤ r) = false := decide_eq_false t6
    have t7 : r ≤ 1071 := by omega
    have d7 : decide (r ≤ 1071) = true := decide_eq_true t7
    have t8 : ¬ 1024 ≤ r := by omega
    have d8 : decide (1024 ≤ r) = false := decide_eq_false t8
    have t9 : r ≤ 1039 := by omega
    have d9 : decide (r ≤ 1039) = true := decide_eq_true t9
    have n215 : (r != 215) = true := by simp; omega
    have m215 : ¬ r = 215 := by omega
    have n930 : (r != 930) = true := by simp; omega
    have m930 : ¬ r = 930 := by omega
    clear hc
    go_enter Try.func35, Try.ntmps35
    go_wp2
    go_ret
    rw [HV.out]
    exact ⟨rfl, Ext.refl _⟩
  by_cases hc : 1024 ≤ r ∧ r ≤ 1039
  · have HV := Lib.hid (show lowerI r = r + 80 by unfold lowerI; rw [if_neg (by omega), if_pos (by omega)])
    have t0 : 65 ≤ r := by omega
    have d0 : decide (65 ≤ r) = true := decide_eq_true t0
    have t1 : ¬ r ≤ 90 := by omega
    have d1 : decide (r ≤ 90) = false := decide_eq_false t1
    have t2 : 192 ≤ r := by omega
    have d2 : decide (192 ≤ r) = true := decide_eq_true t2
    have t3 : ¬ r ≤ 222 := by omega
    have d3 : decide (r ≤ 222) = false := decide_eq_false t3
    have t4 : 913 ≤ r := by omega
    have d4 : decide (913 ≤ r) = true := decide_eq_true t4
    have t5 : ¬ r ≤ 937 := by omega
    have d5 : decide (r ≤ 937) = false := decide_eq_false t5
    have t6 : ¬ 1040 ≤ r := by omega
    have d6 : decide (1040 ≤ r) = false := decide_eq_false t6
    have t7 : r ≤ 1071 := by omega
    have d7 : decide (r ≤ 1071) = true := decide_eq_true t7
    have t8 : 1024 ≤ r := by omega
    have d8 : decide (1024 ≤ r) = true := decide_eq_true t8
    have t9 : r ≤ 1039 := by omega
    have d9 : decide (r ≤ 1039) = true := decide_eq_true t9
    have n215 : (r != 215) = true := by simp; omega
    have m215 : ¬ r = 215 := by omega
    have n930 : (r != 930) = true := by simp; omega
    have m930 : ¬ r = 930 := by omega
    have w0 : IntKind.i32.wrap (r + 80) = r + 80 := IntWalk.i32_in _ (by omega)
    clear hc
    go_enter Try.func35, Try.ntmps35
    go_wp2
    go_ret
    rw [HV.out]
    exact ⟨rfl, Ext.refl _⟩
  by_cases hc : 1040 ≤ r ∧ r ≤ 1071
  · have HV := Lib.hid (show lowerI r = r + 32 by unfold lowerI; rw [if_pos (by omega)])
    have t0 : 65 ≤ r := by omega
    have d0 : decide (65 ≤ r) = true := decide_eq_true t0
    have t1 : ¬ r ≤ 90 := by omega
    have d1 : decide (r ≤ 90) = false := decide_eq_false t1
    have t2 : 192 ≤ r := by omega
    have d2 : decide (192 ≤ r) = true := decide_eq_true t2
    have t3 : ¬ r ≤ 222 := by omega
    have d3 : decide (r ≤ 222) = false := decide_eq_false t3
    have t4 : 913 ≤ r := by omega
    have d4 : decide (913 ≤ r) = true := decide_eq_true t4
    have t5 : ¬ r ≤ 937 := by omega
    have d5 : decide (r ≤ 937) = false := decide_eq_false t5
    have t6 : 1040 ≤ r := by omega
    have d6 : decide (1040 ≤ r) = true := decide_eq_true t6
    have t7 : r ≤ 1071 := by omega
    have d7 : decide (r ≤ 1071) = true := decide_eq_true t7
    have t8 : 1024 ≤ r := by omega
    have d8 : decide (1024 ≤ r) = true := decide_eq_true t8
    have t9 : ¬ r ≤ 1039 := by omega
    have d9 : decide (r ≤ 1039) = false := decide_eq_false t9
    have n215 : (r != 215) = true := by simp; omega
    have m215 : ¬ r = 215 := by omega
    have n930 : (r != 930) = true := by simp; omega
    have m930 : ¬ r = 930 := by omega
    have w0 : IntKind.i32.wrap (r + 32) = r + 32 := IntWalk.i32_in _ (by omega)
    clear hc
    go_enter Try.func35, Try.ntmps35
    go_wp2
    go_ret
    rw [HV.out]
    exact ⟨rfl, Ext.refl _⟩
  by_cases hc : 1072 ≤ r
  · have HV := Lib.hid (show lowerI r = r by unfold lowerI; rw [if_neg (by omega), if_neg (by omega)])
    have t0 : 65 ≤ r := by omega
    have d0 : decide (65 ≤ r) = true := decide_eq_true t0
    have t1 : ¬ r ≤ 90 := by omega
    have d1 : decide (r ≤ 90) = false := decide_eq_false t1
    have t2 : 192 ≤ r := by omega
    have d2 : decide (192 ≤ r) = true := decide_eq_true t2
    have t3 : ¬ r ≤ 222 := by omega
    have d3 : decide (r ≤ 222) = false := decide_eq_false t3
    have t4 : 913 ≤ r := by omega
    have d4 : decide (913 ≤ r) = true := decide_eq_true t4
    have t5 : ¬ r ≤ 937 := by omega
    have d5 : decide (r ≤ 937) = false := decide_eq_false t5
    have t6 : 1040 ≤ r := by omega
    have d6 : decide (1040 ≤ r) = true := decide_eq_true t6
    have t7 : ¬ r ≤ 1071 := by omega
    have d7 : decide (r ≤ 1071) = false := decide_eq_false t7
    have t8 : 1024 ≤ r := by omega
    have d8 : decide (1024 ≤ r) = true := decide_eq_true t8
    have t9 : ¬ r ≤ 1039 := by omega
    have d9 : decide (r ≤ 1039) = false := decide_eq_false t9
    have n215 : (r != 215) = true := by simp; omega
    have m215 : ¬ r = 215 := by omega
    have n930 : (r != 930) = true := by simp; omega
    have m930 : ¬ r = 930 := by omega
    clear hc
    go_enter Try.func35, Try.ntmps35
    go_wp2
    go_ret
    rw [HV.out]
    exact ⟨rfl, Ext.refl _⟩
  exfalso; omega

end Go.Proofs.Ytbcmfebfcoedkaa
