/- Walk: norm.made: pairs, either way, as two maps. -/
import Derived.Test.YtbcmfebfcoedkaaZ16
namespace Go.Proofs.Ytbcmfebfcoedkaa
open Go.RowKit Go.Maps Go.WideMaps Go.ChangeMaps
set_option linter.unusedVariables false
set_option linter.unusedSimpArgs false

theorem not_map {w : World} {b o : Nat} {v : Value} {r : Nat} {kv : List (Value × Value)} (h : w.cell? ⟨b, o, none⟩ = some v) (m : MapAt w r kv) : b ≠ r := by
  rintro rfl
  obtain ⟨es, c, h1, _⟩ := m
  simp [World.cell?, h1] at h
theorem frozen_agree {w w' : World} {b i : Nat} (h : w'.heap[b]? = w.heap[b]?) : w'.frozen? ⟨b, i, none⟩ = w.frozen? ⟨b, i, none⟩ := by simp [World.frozen?, h]
theorem Agree.cellAt {w w' : World} {ok : Nat → Prop} (h : Agree ok w w') {b o : Nat} {v : Value} (ho : ok b) (hc : w.cell? ⟨b, o, none⟩ = some v) : w'.cell? ⟨b, o, none⟩ = some v := h.cell (a := ⟨b, o, none⟩) ho hc
theorem grown_cell {w w' : World} {r : Option Nat} {b off : Nat} {u : Value} (hg : w.grownBy w' r) (h : w.cell? ⟨b, off, none⟩ = some u) (hne : r ≠ some b) : w'.cell? ⟨b, off, none⟩ = some u :=
  (hg.cell_far ⟨b, off, none⟩ (World.block_lt_of_cell? w _ h) (Ne.symm hne)).trans h
theorem MapAt.set {w : World} {b : Nat} {kv : List (Value × Value)} (h : MapAt w b kv) {r o : Nat} (hne : b ≠ r) (v : Value) : MapAt (w.setCell ⟨r, o, none⟩ v) b kv := by
  obtain ⟨es, c, h1, h2⟩ := h
  refine ⟨es, c, ?_, h2⟩
  rw [Go.Sort.setCell_eq]
  simp only [Go.Sort.mapBlock, Array.getElem?_modify]
  rw [if_neg (Ne.symm hne)]
  exact h1
theorem agree_own {W0 w w' : World} {r : Nat} {ok : Nat → Prop} (h : Agree ok W0 w) (hs : W0.heap.size ≤ w.heap.size) (hg : w.grownBy w' (some r)) (hr : ¬ ok r) : Agree ok W0 w' :=
  fun b ho hb => (hg.block b (by omega) (fun e => by have := Option.some.inj e; subst this; exact hr ho)).trans (h b ho hb)
theorem agree_alloc {W0 w : World} {ok : Nat → Prop} (h : Agree ok W0 w) (hs : W0.heap.size ≤ w.heap.size) (o : Obj) : Agree ok W0 (w.alloc o) :=
  fun b ho hb => (((Ext.refl w).alloc o).block (by omega)).trans (h b ho hb)
theorem kvA_new {k : Nat} {p : Pr} (h : pairsL[k]? = some p) : ∀ q ∈ kvA (pairsL.take k), q.1 ≠ .int .i32 p.whole := by
  intro q hq e
  obtain ⟨x, hx, rfl⟩ := List.mem_map.1 hq
  obtain ⟨i, hi, rfl⟩ := List.getElem_of_mem hx
  obtain ⟨hk, rfl⟩ := List.getElem?_eq_some_iff.1 h
  have hi' : i < k := by simp at hi; omega
  have := List.pairwise_iff_getElem.1 wholes_apart i k (by omega) hk hi'
  simp at this e
  exact this e
theorem kvT_new {k : Nat} {p : Pr} (h : pairsL[k]? = some p) : ∀ q ∈ kvT (pairsL.take k), q.1 ≠ .agg #[.int .i32 p.base, .int .i32 p.mark] := by
  intro q hq e
  obtain ⟨x, hx, rfl⟩ := List.mem_map.1 hq
  obtain ⟨i, hi, rfl⟩ := List.getElem_of_mem hx
  obtain ⟨hk, rfl⟩ := List.getElem?_eq_some_iff.1 h
  have hi' : i < k := by simp at hi; omega
  have := List.pairwise_iff_getElem.1 twos_apart i k (by omega) hk hi'
  simp at this e
  exact this e.1 e.2
theorem mem_take {k : Nat} : ∀ p ∈ pairsL.take k, p ∈ pairsL := fun p hp => List.mem_of_mem_take hp

structure MadeStart (w W0 : World) : Prop where
  ext : Ext w W0
  a : MapAt W0 (w.heap.size + 1) []
  t : MapAt W0 (w.heap.size + 1 + 1) []
  c0 : W0.cell? ⟨w.heap.size + 1 + 1 + 1, 0, none⟩ = some (.map (some (w.heap.size + 1)))
  c1 : W0.cell? ⟨w.heap.size + 1 + 1 + 1, 1, none⟩ = some (.map (some (w.heap.size + 1 + 1)))
  r0 : W0.cell? ⟨w.heap.size, 0, none⟩ = some (.map none)
  r1 : W0.cell? ⟨w.heap.size, 1, none⟩ = some (.map none)
  fz : ∀ i, W0.frozen? ⟨w.heap.size, i, none⟩ = false
  size : W0.heap.size = w.heap.size + 1 + 1 + 1 + 1
theorem madeStart (w : World) (t : TypeId) : MadeStart w ((((w.alloc (.cells #[.map none, .map none] t)).alloc (.map #[] 0)).alloc (.map #[] 0)).alloc (.cells #[.map (some (w.heap.size + 1)), .map (some (w.heap.size + 1 + 1))] t)) := by
  have e1 : (w.alloc (.cells #[.map none, .map none] t)).heap.size = w.heap.size + 1 := by simp
  have r0 : (w.alloc (.cells #[.map none, .map none] t)).cell? ⟨w.heap.size, 0, none⟩ = some (.map none) := cell_new _ _ _ _ _ rfl
  have r1 : (w.alloc (.cells #[.map none, .map none] t)).cell? ⟨w.heap.size, 1, none⟩ = some (.map none) := cell_new _ _ _ _ _ rfl
  have f1 := Wr.new w #[.map none, .map none] t
  have x1 := (Ext.refl w).alloc (.cells #[.map none, .map none] t)
  generalize w.alloc (.cells #[.map none, .map none] t) = W1 at *
  have a1 := MapAt.made W1
  have x2 := (Ext.refl W1).alloc (.map #[] 0)
  have e2 : (W1.alloc (.map #[] 0)).heap.size = w.heap.size + 1 + 1 := by simp [e1]
  rw [e1] at a1
  generalize W1.alloc (.map #[] 0) = W2 at *
  have a2 := MapAt.made W2
  have x3 := (Ext.refl W2).alloc (.map #[] 0)
  have e3 : (W2.alloc (.map #[] 0)).heap.size = w.heap.size + 1 + 1 + 1 := by simp [e2]
  rw [e2] at a2
  generalize W2.alloc (.map #[] 0) = W3 at *
  have c0 : (W3.alloc (.cells #[.map (some (w.heap.size + 1)), .map (some (w.heap.size + 1 + 1))] t)).cell? ⟨W3.heap.size, 0, none⟩ = some (.map (some (w.heap.size + 1))) := cell_new _ _ _ _ _ rfl
  have c1 : (W3.alloc (.cells #[.map (some (w.heap.size + 1)), .map (some (w.heap.size + 1 + 1))] t)).cell? ⟨W3.heap.size, 1, none⟩ = some (.map (some (w.heap.size + 1 + 1))) := cell_new _ _ _ _ _ rfl
  have x4 := (Ext.refl W3).alloc (.cells #[.map (some (w.heap.size + 1)), .map (some (w.heap.size + 1 + 1))] t)
  rw [e3] at c0 c1
  have y := (x2.trans x3).trans x4
  exact ⟨x1.trans y, (a1.ext x3).ext x4, a2.ext x4, c0, c1, y.cell r0, y.cell r1, (f1.ext y).2, by simp [e3]⟩

set_option maxRecDepth 1000000 in
set_option maxHeartbeats 6400000 in
theorem made_any (w : World) : Calls Try.prog 26 #[] w fun e w' => ∃ b1 b2, e = .returned (.agg #[.map (some b1), .map (some b2)]) ∧ MapAt w' b1 (kvA pairsL) ∧ MapAt w' b2 (kvT pairsL) ∧ Ext w w' := by
  have hmm := @run_makeMap Try.prog
  have ST := Lib.hid (madeStart w 57)
  have HL := Lib.hid pairs_len
  go_enter Try.func26, Try.ntmps26
  go_upto_region 2 with fail
  generalize (((w.alloc (.cells #[.map none, .map none] 57)).alloc (.map #[] 0)).alloc (.map #[] 0)).alloc (.cells #[.map (some (w.heap.size + 1)), .map (some (w.heap.size + 1 + 1))] 57) = W0 at *
  have C := Lib.hid (Pairs_any W0)
  go_wp2_with (go_at_call 5; refine C.out.mono ?_; rintro e w1 ⟨A, c, rfl, ht, x1⟩)
  have X1 := Lib.hid x1
  obtain ⟨s1, s2, s3, s4, s5, s6, s7, s8, s9⟩ := ST.out
  have a1 := s2.ext x1; have a2 := s3.ext x1
  have c0 := x1.cell s4; have c1 := x1.cell s5; have r0 := x1.cell s6; have r1 := x1.cell s7
  have fz : ∀ i, w1.frozen? ⟨w.heap.size, i, none⟩ = false := fun i => (x1.frozen (a := ⟨w.heap.size, i, none⟩) (by show w.heap.size < _; omega)).trans (s8 i)
  have HW := Lib.hid s1
  have sz : w.heap.size + 1 + 1 + 1 + 1 ≤ w1.heap.size := by have := x1.size; omega
  clear ST C s1 s2 s3 s4 s5 s6 s7 s8 s9 x1
  have HA := Lib.hid a1; have HB := Lib.hid a2; have P1 := Lib.hid ht
  have KC := Lib.hid (fun W (ag : Agree (fun b => b ≠ w.heap.size + 1 ∧ b ≠ w.heap.size + 1 + 1) w1 W) =>
    show W.cell? ⟨w.heap.size + 1 + 1 + 1, 0, none⟩ = some (.map (some (w.heap.size + 1))) ∧ W.cell? ⟨w.heap.size + 1 + 1 + 1, 1, none⟩ = some (.map (some (w.heap.size + 1 + 1))) ∧ W.cell? ⟨w.heap.size, 0, none⟩ = some (.map none) ∧ W.cell? ⟨w.heap.size, 1, none⟩ = some (.map none) ∧ (∀ i, W.frozen? ⟨w.heap.size, i, none⟩ = false) from
      ⟨ag.cellAt ⟨by omega, by omega⟩ c0, ag.cellAt ⟨by omega, by omega⟩ c1, ag.cellAt ⟨by omega, by omega⟩ r0, ag.cellAt ⟨by omega, by omega⟩ r1,
        fun i => (frozen_agree (ag w.heap.size ⟨by omega, by omega⟩ (by omega))).trans (fz i)⟩)
  have PC := Lib.hid (fun W (ag : Agree (fun b => b ≠ w.heap.size + 1 ∧ b ≠ w.heap.size + 1 + 1) w1 W) => show Pairs W A 74 c pairsL from
    SlR.mono (SlR.keep (keep_pair (fun b => b ≠ w.heap.size + 1 ∧ b ≠ w.heap.size + 1 + 1)) (by
      obtain ⟨p, hp⟩ := P1.out.idx (k := 0) (by omega)
      obtain ⟨b, off, rfl, _, hc, _⟩ := P1.out.pair hp
      exact slr_ok P1.out ⟨not_map hc HA.out, not_map hc HB.out⟩) ag) (fun _ _ h => h) (fun _ _ => trivial))
  clear a1 a2 c0 c1 r0 r1 fz ht
  have b1 : w.heap.size + 1 + 1 + 1 ≠ w.heap.size := by omega
  generalize hH : w.heap.size = H at *
  have HE := Lib.hid (Nat.le_of_eq hH)
  clear hH
  go_loopw [9] (fun vi wr => ∃ k : Nat, vi = .int .i64 k ∧ k ≤ 74 ∧ Hid (MapAt wr (H + 1) (kvA (pairsL.take k))) ∧ Hid (MapAt wr (H + 1 + 1) (kvT (pairsL.take k))) ∧ Hid (Agree (fun b => b ≠ H + 1 ∧ b ≠ H + 1 + 1) w1 wr) ∧ w1.heap.size ≤ wr.heap.size ∧ Hid (Ext w wr)) (fun vi _ => 74 - (intOf vi).toNat)
  case atStart => exact ⟨0, rfl, by omega, HA, HB, Lib.hid (Agree.refl _ _), Nat.le_refl _, Lib.hid (HW.out.trans X1.out)⟩
  case round =>
    clear HA HB
    obtain ⟨k, rfl, hk, HA, HB, AG, hsz, HX⟩ := hrel
    by_cases hlt : k < 74
    · have gz : (k : Int) < 74 := by omega
      obtain ⟨p, hp⟩ : ∃ p, pairsL[k]? = some p := ⟨_, List.getElem?_eq_getElem (by rw [HL.out]; exact hlt)⟩
      obtain ⟨k0, k1, _, _, _⟩ := KC.out wr AG.out
      have hP := PC.out wr AG.out
      obtain ⟨b, off, hAe, ⟨hbl, hbn⟩, p0, p1, p2⟩ := hP.pair hp
      subst hAe
      have hpm := pairs_i32 (List.mem_of_getElem? hp)
      have NA := Lib.hid (kvA_new hp); have NT := Lib.hid (kvT_new hp)
      have TA := Lib.hid (show kvA (pairsL.take (k + 1)) = kvA (pairsL.take k) ++ [(.int .i32 p.whole, vP p)] by rw [take_snoc hp]; simp [kvA])
      have TT := Lib.hid (show kvT (pairsL.take (k + 1)) = kvT (pairsL.take k) ++ [(.agg #[.int .i32 p.base, .int .i32 p.mark], .int .i32 p.whole)] by rw [take_snoc hp]; simp [kvT])
      have e5 := (Ext.refl wr).alloc (.cells #[.int .i32 p.base, .int .i32 p.mark, .int .i32 p.whole] 27)
      have A5 := Lib.hid (HA.out.ext e5)
      have B5 := Lib.hid (HB.out.ext e5)
      have AG5 := Lib.hid (agree_alloc AG.out hsz (.cells #[.int .i32 p.base, .int .i32 p.mark, .int .i32 p.whole] 27))
      have X5 := Lib.hid (HX.out.trans e5)
      have z5 := Lib.hid (Nat.le_trans hsz e5.size)
      have n0 : (wr.alloc (.cells #[.int .i32 p.base, .int .i32 p.mark, .int .i32 p.whole] 27)).cell? ⟨wr.heap.size, 0, none⟩ = some (.int .i32 p.base) := cell_new _ _ _ _ _ rfl
      have n1 : (wr.alloc (.cells #[.int .i32 p.base, .int .i32 p.mark, .int .i32 p.whole] 27)).cell? ⟨wr.heap.size, 1, none⟩ = some (.int .i32 p.mark) := cell_new _ _ _ _ _ rfl
      have n2 : (wr.alloc (.cells #[.int .i32 p.base, .int .i32 p.mark, .int .i32 p.whole] 27)).cell? ⟨wr.heap.size, 2, none⟩ = some (.int .i32 p.whole) := cell_new _ _ _ _ _ rfl
      have KC5 := KC.out _ AG5.out
      obtain ⟨j0, j1, _, _, _⟩ := KC5
      have hne : wr.heap.size ≠ H + 1 := by omega
      have hne2 : wr.heap.size ≠ H + 1 + 1 := by omega
      clear hp HA HB AG HX hP
      go_upto_region 5 with fail
      generalize wr.alloc (.cells #[.int .i32 p.base, .int .i32 p.mark, .int .i32 p.whole] 27) = w5 at *
      generalize wr.heap.size = B5' at *
      clear k0 k1 p0 p1 p2
      go_wp2_with (first
        | (at_mapUpdate; refine wpList_store rfl _ _ _ rfl lawA Try.underlying54 rfl A5.out (keysA mem_take) _ _ _ rfl rfl (keyA hpm.2.2) NA.out ?_; intro w6 m6 g6; have M6 := Lib.hid m6; have B6 := Lib.hid (B5.out.far g6 (by intro e; have := Option.some.inj e; omega)); have AG6 := Lib.hid (agree_own AG5.out z5.out g6 (by intro h; exact h.1 rfl)); have X6 := Lib.hid (X5.out.grown g6 (by intro q hq; have := Option.some.inj hq; have := HE.out; omega)); have z6 := Lib.hid (Nat.le_trans z5.out g6.size); have q0 := grown_cell g6 n0 (by intro e; have := Option.some.inj e; omega); have q1 := grown_cell g6 n1 (by intro e; have := Option.some.inj e; omega); have q2 := grown_cell g6 n2 (by intro e; have := Option.some.inj e; omega); have q3 := (KC.out w6 AG6.out).2.1; clear m6 g6)
        | (at_mapUpdate; refine wpList_store rfl _ _ _ rfl lawT Try.underlying55 rfl B6.out (keysT mem_take) _ _ _ rfl rfl (keyT hpm.1 hpm.2.1) NT.out ?_; intro w7 m7 g7; have M7 := Lib.hid m7; have A7 := Lib.hid (M6.out.far g7 (by intro e; have := Option.some.inj e; omega)); have AG7 := Lib.hid (agree_own AG6.out z6.out g7 (by intro h; exact h.2 rfl)); have X7 := Lib.hid (X6.out.grown g7 (by intro q hq; have := Option.some.inj hq; have := HE.out; omega)); have z7 := Nat.le_trans z6.out g7.size; clear m7 g7))
      go_roundw
      case rel => exact ⟨k + 1, by go_num, by omega, by rw [TA.out]; exact A7, by rw [TT.out]; exact M7, AG7, z7, X7⟩
      case measure => simp [intOf]; omega
    · have gz : ¬ (k : Int) < 74 := by omega
      obtain ⟨k0, k1, k2, k3, k4⟩ := KC.out wr AG.out
      have hA := HA.out; have hB := HB.out
      rw [List.take_of_length_le (by rw [HL.out]; omega)] at hA hB
      have HA' := Lib.hid hA; have HB' := Lib.hid hB
      clear hA hB
      go_wp2
      refine bodyPost_ret (v := .agg #[.map (some (H + 1)), .map (some (H + 1 + 1))]) (by simp [results, Try.results26, go_sem, k0, k1, k2, k3, k4]) rfl ?_
      exact ⟨H + 1, H + 1 + 1, rfl, (HA'.out.set (by omega) _).set (by omega) _, (HB'.out.set (by omega) _).set (by omega) _, ext_set (ext_set HX.out HE.out _ _) HE.out _ _⟩

end Go.Proofs.Ytbcmfebfcoedkaa
