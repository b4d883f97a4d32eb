/- Walks of room, Put and Runes. -/
import Derived.Test.YtpnflnocmekpnaaG4
namespace Go.Proofs.Ytpnflnocmekpnaa
open Go.RowKit
set_option linter.unusedVariables false
set_option linter.unusedSimpArgs false

theorem room_plain {L Z : List Int} {a tz nt N : Nat} (hZ : Z.length = N) (h1 : a ≤ nt) (h2 : a ≤ L.length) (h3 : nt + (L.length - tz) = N) (h4 : tz ≤ L.length) :
    (splice (splice Z 0 (L.take a)) nt (L.drop tz)).length = N ∧ (splice (splice Z 0 (L.take a)) nt (L.drop tz)).take a ++ (splice (splice Z 0 (L.take a)) nt (L.drop tz)).drop nt = L.take a ++ L.drop tz := by
  have ha : (L.take a).length = a := by simp; omega
  have hl1 : (splice Z 0 (L.take a)).length = N := by rw [splice_len _ _ _ (by omega)]; exact hZ
  have hd : (L.drop tz).length = L.length - tz := by simp
  refine ⟨by rw [splice_len _ _ _ (by omega)]; exact hl1, ?_⟩
  have e1 : (splice Z 0 (L.take a)).take a = L.take a := by
    simp only [splice, List.take_zero, List.nil_append]
    rw [List.take_append_of_le_length (by omega), List.take_of_length_le (by omega)]
  generalize splice Z 0 (L.take a) = Y at *
  have htk : (Y.take nt).length = nt := by simp; omega
  have e2 : (splice Y nt (L.drop tz)).take a = L.take a := by
    simp only [splice]
    rw [List.take_append_of_le_length (by omega), List.take_take, Nat.min_eq_left h1, e1]
  have e3 : (splice Y nt (L.drop tz)).drop nt = L.drop tz := by
    simp only [splice]
    rw [List.drop_append, List.drop_of_length_le (by omega), htk, Nat.sub_self, List.drop_zero, List.nil_append, List.drop_of_length_le (l := Y) (by omega), List.append_nil]
  rw [e2, e3]

theorem BufB.reset {w : World} {pb ab nb : Nat} {L L' : List Int} {a tz t N : Nat} (h : BufB w pb ab L a tz) (hne : pb ≠ nb) (hg : w.heap[nb]? = some (.cells (cellsOf L').toArray 21 (0, 0))) (hN : L'.length = N)
    (ok : ∀ x ∈ L', i32 x) (h1 : a ≤ t) (h2 : t ≤ N) (h3 : N ≤ 12000) : BufB ((w.setCell ⟨pb, 0, none⟩ (.slice (some ⟨nb, 0, none⟩) N N)).setCell ⟨pb, 2, none⟩ (.int .i64 (t : Nat))) pb nb L' a t := by
  subst hN
  have e := setCell_eq_setRow w pb 0 _ _ (0, 0) (.slice (some ⟨nb, 0, none⟩) L'.length L'.length) h.hp
  have k1 : (w.setCell ⟨pb, 0, none⟩ (.slice (some ⟨nb, 0, none⟩) L'.length L'.length)).heap[pb]? = some (.cells #[.slice (some ⟨nb, 0, none⟩) L'.length L'.length, .int .i64 (a : Nat), .int .i64 (tz : Nat)] 43 (0, 0)) := by
    rw [e, setRow_heap w pb _ _ _ _ h.hp]; simp
  have k2 : (w.setCell ⟨pb, 0, none⟩ (.slice (some ⟨nb, 0, none⟩) L'.length L'.length)).heap[nb]? = some (.cells (cellsOf L').toArray 21 (0, 0)) := by
    rw [e, setRow_other w pb nb _ (Ne.symm hne)]; exact hg
  generalize w.setCell ⟨pb, 0, none⟩ (.slice (some ⟨nb, 0, none⟩) L'.length L'.length) = w' at *
  have e2 := setCell_eq_setRow w' pb 2 _ _ (0, 0) (.int .i64 (t : Nat)) k1
  refine ⟨?_, ?_, ok, h1, h2, h3⟩
  · rw [e2, setRow_heap w' pb _ _ _ _ k1]; simp
  · rw [e2, setRow_other w' pb nb _ (Ne.symm hne)]; exact k2

set_option maxRecDepth 100000 in
set_option maxHeartbeats 4000000 in
theorem room_any {base : Nat} {w : World} {pb ab : Nat} {L : List Int} {a tz : Nat} (hb : BufB w pb ab L a tz) (b1 : base ≤ pb) (b2 : base ≤ ab) (n : Nat) (hn : L.length - (tz - a) + n ≤ 4000) (hbase : base ≤ w.heap.size) :
    Calls Try.prog 16 #[.pointer (some ⟨pb, 0, none⟩), .int .i64 (n : Nat)] w fun e w' => e = .returned (.tuple #[]) ∧ Below base w w' ∧
      (∀ k, k ≠ pb → k < w.heap.size → w'.heap[k]? = w.heap[k]?) ∧ ∃ ab' L' tz', BufB w' pb ab' L' a tz' ∧ base ≤ ab' ∧ n ≤ tz' - a ∧ L'.take a ++ L'.drop tz' = L.take a ++ L.drop tz := by
  have h0 := hb.c0; have h1 := hb.c1; have h2 := hb.c2
  have l1 := hb.le; have l2 := hb.le'; have l3 := hb.max
  have hw0 : IntKind.i64.wrap ((tz : Int) - (a : Int)) = ((tz - a : Nat) : Int) := by rw [IntWalk.i64_in _ (by omega)]; omega
  by_cases hg : n ≤ tz - a
  · have t1 : (n : Int) ≤ ((tz - a : Nat) : Int) := by omega
    have HB := Lib.hid hb; clear hb
    go_enter Try.func16, Try.ntmps16
    go_wp2
    go_quiet (fail)
    go_wp2
    refine bodyPost_ret (v := .tuple #[]) (by simp [results, go_sem]) rfl ?_
    have e := (Ext.refl w).drewN nq
    exact ⟨rfl, below_drewN (Below.refl _ _) nq, fun k _ hk => e.block hk, ab, L, tz, HB.out.ext e, b2, hg, rfl⟩
  · have t1 : decide ((n : Int) ≤ ((tz - a : Nat) : Int)) = false := by simp; omega
    have HB := Lib.hid hb; clear hb
    obtain ⟨N, hN⟩ : ∃ N, N = 2 * L.length + n := ⟨_, rfl⟩
    have hmk := make_runes N (by omega)
    rw [show (N : Int) = 2 * (L.length : Int) + (n : Int) by omega] at hmk
    go_enter Try.func16, Try.ntmps16
    go_wp2
    go_quiet (fail)
    go_upto_region 2 with fail
    have hx := ((Ext.refl w).drewN nq).alloc (.cells (cellsOf (List.replicate (2 * L.length + n) 0)).toArray 21)
    have hz : ((w.drewN nq).alloc (.cells (cellsOf (List.replicate (2 * L.length + n) 0)).toArray 21)).heap[w.heap.size]? = some (.cells (cellsOf (List.replicate (2 * L.length + n) 0)).toArray 21 (0, 0)) := heap_alloc_new (w.drewN nq) _
    generalize (w.drewN nq).alloc (.cells (cellsOf (List.replicate (2 * L.length + n) 0)).toArray 21) = w2 at *
    have hb2 := HB.out.ext (hx.trans (Ext.refl w2).drew)
    have k0 := (HB.out.ext hx).c0; have k1 := (HB.out.ext hx).c1
    have hpne : pb ≠ w.heap.size := by have := HB.out.ltp; omega
    have hane : ab ≠ w.heap.size := by have := HB.out.lta; omega
    have B2 := Lib.hid hb2; have HX := Lib.hid hx; have HZ : Hid (w2.drew.heap[w.heap.size]? = some (.cells (cellsOf (List.replicate (2 * L.length + n) 0)).toArray 21 (0, 0))) := Lib.hid hz
    clear hb2 hx hz h0 h1 h2 hmk
    have hcut : ∀ W, (Instr.sliceAt 22 (.slice (some ⟨ab, 0, none⟩) L.length L.length) none (some (.int .i64 (a : Int))) none).run Try.prog W = .ok (.slice (some ⟨ab, 0, none⟩) a L.length) W := fun W => run_cut_h tRunes _ L.length L.length a a rfl (by omega) W
    have S2 := Lib.hid (B2.out.sl.take (hi := a) (by omega))
    go_region_law (refine step_copyR rfl (.tmp 26) (.tmp 35) _ _ rfl _ Try.underlying22 sizeRune _ _ _ _ _ _ rfl rfl S2.out (by omega) w.heap.size 0 (List.replicate (2 * L.length + n) 0) _ HZ.out (fun _ => rfl) (by simp; omega) ?_; intro w4 hg4 hb4 ho4)
    all_goals
      have hb5 := B2.out.keep (ho4.out pb hpne) (ho4.out ab hane)
      have j0 := hb5.c0; have j2 := hb5.c2
      have B5 := Lib.hid hb5; clear hb5
      clear k0 k1 hcut
      go_wp2
      go_quiet (fail)
      go_upto_region 4 with fail
      have hnt0 : (2 * (L.length : Int) + (n : Int) - ((L.length : Int) - (tz : Int))) = ((2 * L.length + n - (L.length - tz) : Nat) : Int) := by omega
      rw [hnt0]; clear hnt0
      obtain ⟨nt, hnt⟩ : ∃ nt, nt = 2 * L.length + n - (L.length - tz) := ⟨_, rfl⟩
      rw [← hnt]
      have d5 := (Ext.refl w4).drewN nq
      have HB5 := Lib.hid (below_drewN hb4 nq)
      have hb6 := B5.out.ext d5
      have hg6 : (w4.drewN nq).heap[w.heap.size]? = _ := hg4.out
      have ho6 : Hid (∀ k, k ≠ w.heap.size → (w4.drewN nq).heap[k]? = w2.drew.heap[k]?) := Lib.hid (fun k hk => ho4.out k hk)
      generalize w4.drewN nq = w5 at *
      have j0 := hb6.c0; have j2 := hb6.c2
      have B6 := Lib.hid (hb6.ext (Ext.refl w5).drew)
      have HG6 : Hid (w5.drew.heap[w.heap.size]? = some (.cells (cellsOf (splice (List.replicate (2 * L.length + n) 0) 0 (List.take a L))).toArray 21 (0, 0))) := Lib.hid hg6
      have hc1 : ∀ W, (Instr.sliceAt 22 (.slice (some ⟨w.heap.size, 0, none⟩) (2 * L.length + n) (2 * L.length + n)) (some (.int .i64 (nt : Int))) none none).run Try.prog W = .ok (.slice (cutA (some ⟨w.heap.size, 0, none⟩) (2 * L.length + n) nt 1) (2 * L.length + n - nt) (2 * L.length + n - nt)) W := fun W => run_cut_l tRunes _ _ _ nt nt rfl (by omega) W
      have hc2 : ∀ W, (Instr.sliceAt 22 (.slice (some ⟨ab, 0, none⟩) L.length L.length) (some (.int .i64 (tz : Int))) none none).run Try.prog W = .ok (.slice (cutA (some ⟨ab, 0, none⟩) L.length tz 1) (L.length - tz) (L.length - tz)) W := fun W => run_cut_l tRunes _ _ _ tz tz rfl (by omega) W
      have hA : 0 < L.length - tz → cutA (some ⟨w.heap.size, 0, none⟩) (2 * L.length + n) nt 1 = some ⟨w.heap.size, nt, none⟩ := fun h0 => by unfold cutA; rw [if_neg (by omega)]; simp [addr_add]
      have S6 := Lib.hid (B6.out.sl.drop (lo := tz) (by omega))
      have hspl : (splice (List.replicate (2 * L.length + n) 0) 0 (List.take a L)).length = 2 * L.length + n := by rw [splice_len _ _ _ (by simp; omega)]; simp
      have HN := Lib.hid hnt
      have hfit : nt + (L.length - tz) ≤ (splice (List.replicate (2 * L.length + n) 0) 0 (List.take a L)).length := by omega
      have hm : L.length - tz ≤ 2 * L.length + n - nt := by omega
      clear hb6 hg6 hg4 ho4 hb4 B5 d5 hnt hspl
      go_region_law (refine step_copyR rfl (.tmp 52) (.tmp 61) _ _ rfl _ Try.underlying22 sizeRune _ _ _ _ _ _ rfl rfl S6.out hm w.heap.size nt _ _ HG6.out hA hfit ?_; intro w6 hg7 hb7 ho7)
    all_goals
      have hb8 := B6.out.keep (ho7.out pb hpne) (ho7.out ab hane)
      have i0 := hb8.c0; have i2 := hb8.c2; have ifz := hb8.fp
      have B8 := Lib.hid hb8; clear hb8
      clear j0 j2 hc1 hc2 hA
      obtain ⟨hN, hT⟩ := room_plain (L := L) (Z := List.replicate (2 * L.length + n) 0) (a := a) (tz := tz) (nt := nt) (N := 2 * L.length + n) (by simp) (by have := HN.out; omega) (by omega) (by have := HN.out; omega) (by omega)
      have hok : ∀ x ∈ splice (splice (List.replicate (2 * L.length + n) 0) 0 (List.take a L)) nt (List.drop tz L), i32 x := fun x hx => by
        rcases splice_mem hx with hx | hx
        · rcases splice_mem hx with hx | hx
          · rw [List.eq_of_mem_replicate hx]; unfold i32; omega
          · exact B8.out.ok x (List.mem_of_mem_take hx)
        · exact B8.out.ok x (List.mem_of_mem_drop hx)
      have hb9 := B8.out.reset hpne hg7.out hN hok (t := nt) (by have := HN.out; omega) (by have := HN.out; omega) (by omega)
      have hB := ((Below.trans (Below.trans (Below.mono (Ext.drew HX.out) hbase) (Below.mono HB5.out hbase)).drew (Below.mono hb7 hbase)).setCell (p := ⟨pb, 0, none⟩) b1 (.slice (some ⟨w.heap.size, 0, none⟩) (2 * L.length + n) (2 * L.length + n))).setCell (p := ⟨pb, 2, none⟩) b1 (.int .i64 (nt : Int))
      have hO : ∀ k, k ≠ pb → k < w.heap.size → ((w6.setCell ⟨pb, 0, none⟩ (.slice (some ⟨w.heap.size, 0, none⟩) (2 * L.length + n) (2 * L.length + n))).setCell ⟨pb, 2, none⟩ (.int .i64 (nt : Int))).heap[k]? = w.heap[k]? := fun k hk hk2 => by
        rw [Below.heap_setCell _ _ _ _ hk, Below.heap_setCell _ _ _ _ hk, ho7.out k (by omega)]
        exact (ho6.out k (by omega)).trans (HX.out.block hk2)
      have H9 := Lib.hid hb9; have HB' := Lib.hid hB; have HO := Lib.hid hO; have HT := Lib.hid hT
      clear hb9 hB hO hT hN hok hg7 hb7 ho7
      go_wp2
      go_end0
      exact ⟨rfl, HB'.out, HO.out, _, _, nt, H9.out, hbase, by have := HN.out; omega, HT.out⟩

end Go.Proofs.Ytpnflnocmekpnaa
