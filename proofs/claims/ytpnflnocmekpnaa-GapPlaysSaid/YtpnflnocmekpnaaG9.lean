/- Walk of Play. -/
import Derived.Test.YtpnflnocmekpnaaG8
namespace Go.Proofs.Ytpnflnocmekpnaa
open Go.RowKit
set_option linter.unusedVariables false
set_option linter.unusedSimpArgs false

set_option maxRecDepth 100000 in
set_option maxHeartbeats 8000000 in
theorem Play_any {w : World} {X : Option Addr} {n0 c0 : Nat} {t0 : List Int} {A : Option Addr} {m c : Nat} {l : List Ed} (s0 : Runes w X n0 c0 t0) (h : Edits w A m c l) :
    Calls Try.prog 5 #[.slice X n0 c0, .slice A m c] w fun e w' => GapV w' (gapPlay t0 l) e ∧ Ext w w' := by
  have hl0 := s0.len
  have hml := h.len; have hmc := h.cap; have hmm := h.max; unfold maxLen at hmm
  by_cases hbig : 4000 < n0
  · have hp : gapPlay t0 l = ⟨[], 0, 4, 0⟩ := by unfold gapPlay; rw [if_pos (by omega)]
    have t1 : (4000 : Int) < (n0 : Int) := by omega
    have HP := Lib.hid hp; clear hp
    go_enter Try.func5, Try.ntmps5
    go_wp2
    have z0 := cell_new w #[.int .i64 4, .int .i64 0] 26 0 (.int .i64 4) rfl
    have z1 := cell_new w #[.int .i64 4, .int .i64 0] 26 1 (.int .i64 0) rfl
    refine bodyPost_ret (v := .tuple #[.slice none 0 0, .int .i64 0, .agg #[.int .i64 4, .int .i64 0]]) (by simp [results, Try.results5, go_sem, z0, z1]) rfl ?_
    rw [HP.out]
    exact ⟨⟨none, 0, rfl, SlR.nil _ _ _ _ _ _ (by simp [maxLen])⟩, (Ext.refl w).alloc _⟩
  · have t1 : decide ((4000 : Int) < (n0 : Int)) = false := by simp; omega
    have hp : gapPlay t0 l = gapGo 0 t0 0 l := by unfold gapPlay; rw [if_neg (by omega)]
    have hx1 := (Ext.refl w).alloc (.cells #[.int .i64 0, .int .i64 0] 26)
    have wr1 := Wr.new w #[.int .i64 0, .int .i64 0] 26
    have cz0 := cell_new w #[.int .i64 0, .int .i64 0] 26 0 (.int .i64 0) rfl
    have cz1 := cell_new w #[.int .i64 0, .int .i64 0] 26 1 (.int .i64 0) rfl
    have HP := Lib.hid hp; have S0 := Lib.hid (s0.ext hx1); have HE := Lib.hid ((edits_lt h).keep (keep_edit _) (hx1.agree _))
    have HX1 := Lib.hid hx1; have WR := Lib.hid wr1; have CZ := Lib.hid (And.intro cz0 cz1); have HML := Lib.hid hml
    clear hp s0 h hx1 wr1 cz0 cz1 hml
    go_enter Try.func5, Try.ntmps5
    go_upto_region 3 with fail
    generalize w.alloc (.cells #[.int .i64 0, .int .i64 0] 26) = w1 at *
    have hlt1 : w.heap.size < w1.heap.size := WR.out.1
    go_upto_region 4 with (go_at_call 8; refine (New_any S0.out (by omega)).mono ?_; rintro e w2 ⟨pb, rfl, hx2, hbuf⟩)
    have HX2 := Lib.hid hx2; have HBUF := Lib.hid hbuf
    clear hx2 hbuf
    go_wp2
    go_loopw [19] (fun i wr => ∃ k : Nat, k ≤ m ∧ i = .int .i64 k ∧ ∃ t a, Buf w1.heap.size wr pb t a ∧ Ext w1 wr ∧ gapPlay t0 l = gapGo k t a (l.drop k) ∧ t.length ≤ 4000) (fun i _ => m - (intOf i).toNat)
    case atStart => exact ⟨0, Nat.zero_le _, rfl, t0, 0, HBUF.out, HX2.out, HP.out, by omega⟩
    case round =>
      obtain ⟨k, hk, rfl, t, a, hbuf, hxr, hgo, ht4⟩ := hrel
      have HB := Lib.hid hbuf; have HXR := Lib.hid hxr; have HG := Lib.hid hgo
      clear hbuf hxr hgo
      by_cases hlt : k < m
      · obtain ⟨x, hx⟩ : ∃ x, l[k]? = some x := ⟨l[k]'(by rw [HML.out]; exact hlt), List.getElem?_eq_getElem _⟩
        have hE := HE.out.keep (keep_edit _) (HXR.out.agree _)
        obtain ⟨b, off, A', n', c', rfl, ⟨_, bne⟩, h0, h1, h2, hs, hi0, hi1⟩ := hE.edit hx
        obtain ⟨kd, nu, pu⟩ := x
        simp only at h0 h1 h2 hs hi0 hi1
        have HS := Lib.hid hs; have HI := Lib.hid hx
        clear hE hs hx
        go_upto_region 7 with fail
        have q0 := cell_new wr #[.int .i64 kd, .int .i64 nu, .slice A' n' c'] 37 0 (.int .i64 kd) rfl
        have q1 := cell_new wr #[.int .i64 kd, .int .i64 nu, .slice A' n' c'] 37 1 (.int .i64 nu) rfl
        have q2 := cell_new wr #[.int .i64 kd, .int .i64 nu, .slice A' n' c'] 37 2 (.slice A' n' c') rfl
        have ex := (Ext.refl wr).alloc (.cells #[.int .i64 kd, .int .i64 nu, .slice A' n' c'] 37)
        have hs2 : Hid (SlR rRune 1 (fun b => b < w1.heap.size) (wr.alloc (.cells #[.int .i64 kd, .int .i64 nu, .slice A' n' c'] 37)) A' n' c' pu) := Lib.hid ((HS.out.ext (keep_rune _) ex).mono (fun _ _ h => h) (fun b hb => by omega))
        obtain ⟨ab, L, tz, hbb, b1, b2, et⟩ := HB.out
        have hbb2 := hbb.ext ex
        have HXA := Lib.hid (HXR.out.trans ex)
        generalize wr.alloc (.cells #[.int .i64 kd, .int .i64 nu, .slice A' n' c'] 37) = wa at *
        generalize wr.heap.size = eb at *
        have hbuf : Buf w1.heap.size wa pb t a := ⟨ab, L, tz, hbb2, b1, b2, et⟩
        obtain ⟨hlen, hat⟩ := Buf.len (base := w1.heap.size) hbb2 et
        have HBB := Lib.hid hbb2; have HBF := Lib.hid hbuf
        have f0 := HXA.out.cell CZ.out.1; have f1 := HXA.out.cell CZ.out.2; have ff := (WR.out.ext HXA.out).2
        have HPL := Lib.hid hs2.out.len
        have hpc := hs2.out.cap; have hpm := hs2.out.max; unfold maxLen at hpm
        have l1 := hbb2.le; have l2 := hbb2.le'
        clear hbb hbb2 hbuf ex h0 h1 h2 HS HB HXR et
        have bad : ∀ b : Int, gapBad t a ⟨kd, nu, pu⟩ = b → b ≠ 0 → gapPlay t0 l = ⟨[], 0, b, k⟩ := fun b h1 h2 => by rw [HG.out]; exact gapGo_bad HI.out h1 h2
        have BAD := Lib.hid bad; clear bad
        by_cases k1 : kd < 1
        · have HR := Lib.hid (BAD.out 1 (by rw [gapBad_eq, if_pos (.inl k1)]) (by omega))
          clear BAD HG HI
          go_wp2
          obtain ⟨z0, z1⟩ := fault_set (u := 1) (v := (k : Int)) f0 f1
          refine bodyPost_ret (v := .tuple #[.slice none 0 0, .int .i64 0, .agg #[.int .i64 1, .int .i64 (k : Int)]]) (by simp [results, Try.results5, go_sem, z0, z1]) rfl ?_
          rw [HR.out]
          exact play_fin (r := ⟨[], 0, 1, k⟩) (Nat.le_refl _) (HX1.out.trans HXA.out) f0 f1 rfl (SlR.nil _ _ _ _ _ _ (by simp [maxLen])) rfl rfl rfl
        have k1f : decide (kd < 1) = false := by simp; omega
        by_cases k2 : 4 < kd
        · have HR := Lib.hid (BAD.out 1 (by rw [gapBad_eq, if_pos (.inr k2)]) (by omega))
          clear BAD HG HI
          go_wp2
          obtain ⟨z0, z1⟩ := fault_set (u := 1) (v := (k : Int)) f0 f1
          refine bodyPost_ret (v := .tuple #[.slice none 0 0, .int .i64 0, .agg #[.int .i64 1, .int .i64 (k : Int)]]) (by simp [results, Try.results5, go_sem, z0, z1]) rfl ?_
          rw [HR.out]
          exact play_fin (r := ⟨[], 0, 1, k⟩) (Nat.le_refl _) (HX1.out.trans HXA.out) f0 f1 rfl (SlR.nil _ _ _ _ _ _ (by simp [maxLen])) rfl rfl rfl
        have hLEN : ∀ j, Calls Try.prog 9 #[.pointer (some ⟨pb, 0, none⟩)] (wa.drewN j) fun e w'' => e = .returned (.int .i64 ((t.length : Nat) : Int)) ∧ ∃ q, w'' = wa.drewN q := fun j => by
          have := Calls.quiet_of (Len_any (HBB.out.ext ((Ext.refl wa).drewN j)))
          rw [show L.length - (tz - a) = t.length by omega] at this
          exact this
        have hATT : ∀ j, Calls Try.prog 10 #[.pointer (some ⟨pb, 0, none⟩)] (wa.drewN j) fun e w'' => e = .returned (.int .i64 (a : Nat)) ∧ ∃ q, w'' = wa.drewN q := fun j => Calls.quiet_of_same (At_any (HBB.out.ext ((Ext.refl wa).drewN j)))
        have HLEN := Lib.hid hLEN; have HATT := Lib.hid hATT
        have HBJ := Lib.hid (fun j : Nat => HBF.out.ext ((Ext.refl wa).drewN j))
        have HXJ := Lib.hid (fun j : Nat => HXA.out.drewN j)
        have HSJ := Lib.hid (fun j : Nat => hs2.out.ext (keep_rune _) ((Ext.refl wa).drewN j))
        have HSZ := Lib.hid (fun j : Nat => (HXA.out.drewN j).size)
        have g0s := Lib.hid (fun j : Nat => ((Ext.refl wa).drewN j).cell f0); have g1s := Lib.hid (fun j : Nat => ((Ext.refl wa).drewN j).cell f1)
        clear hLEN hATT
        obtain rfl | rfl | rfl | rfl : kd = 1 ∨ kd = 2 ∨ kd = 3 ∨ kd = 4 := by omega
        · clear k1 k1f k2
          by_cases gn : nu < 0
          · have HR := Lib.hid (BAD.out 3 (by rw [gapBad_eq, if_neg (by omega), if_neg (by omega), if_pos (.inl gn)]) (by omega))
            clear BAD HG HI
            go_wp2
            go_quiet ((first
              | (go_at_call 9; exact HLEN.out _)
              | (go_at_call 10; exact HATT.out _)))
            have g0 := g0s.out nq; have g1 := g1s.out nq
            go_wp2
            obtain ⟨z0, z1⟩ := fault_set (u := 3) (v := (k : Int)) g0 g1
            refine bodyPost_ret (v := .tuple #[.slice none 0 0, .int .i64 0, .agg #[.int .i64 3, .int .i64 (k : Int)]]) (by simp [results, Try.results5, go_sem, z0, z1]) rfl ?_
            rw [HR.out]
            exact play_fin (r := ⟨[], 0, 3, k⟩) (Nat.le_refl _) (HX1.out.trans (HXJ.out nq)) g0 g1 rfl (SlR.nil _ _ _ _ _ _ (by simp [maxLen])) rfl rfl rfl
          obtain ⟨N, rfl⟩ : ∃ N : Nat, nu = (N : Int) := ⟨nu.toNat, by omega⟩
          have gnf : decide ((N : Int) < 0) = false := by simp
          by_cases g : t.length < N
          · have gt : ((t.length : Nat) : Int) < (N : Int) := by omega
            have HR := Lib.hid (BAD.out 3 (by rw [gapBad_eq, if_neg (by omega), if_neg (by omega), if_pos (.inr (.inl ⟨rfl, gt⟩))]) (by omega))
            clear BAD HG HI
            go_wp2
            go_quiet ((first
              | (go_at_call 9; exact HLEN.out _)
              | (go_at_call 10; exact HATT.out _)))
            have g0 := g0s.out nq; have g1 := g1s.out nq
            go_wp2
            obtain ⟨z0, z1⟩ := fault_set (u := 3) (v := (k : Int)) g0 g1
            refine bodyPost_ret (v := .tuple #[.slice none 0 0, .int .i64 0, .agg #[.int .i64 3, .int .i64 (k : Int)]]) (by simp [results, Try.results5, go_sem, z0, z1]) rfl ?_
            rw [HR.out]
            exact play_fin (r := ⟨[], 0, 3, k⟩) (Nat.le_refl _) (HX1.out.trans (HXJ.out nq)) g0 g1 rfl (SlR.nil _ _ _ _ _ _ (by simp [maxLen])) rfl rfl rfl
          have gt : decide (((t.length : Nat) : Int) < (N : Int)) = false := by simp; omega
          have HG2 := Lib.hid (HG.out.trans (gapGo_on HI.out (by rw [gapBad_eq, if_neg (by omega), if_neg (by omega), if_neg (by omega)]) (t' := t) (a' := N) (by rw [gapDo_eq, if_pos rfl, Int.toNat_natCast])))
          clear BAD HG HI
          go_wp2
          go_quiet ((first
            | (go_at_call 9; exact HLEN.out _)
            | (go_at_call 10; exact HATT.out _)))
          go_wp2_with (go_at_call 11; refine (Move_any (HBJ.out nq) N (by omega)).mono ?_; rintro e w5 ⟨rfl, hb5, hf5⟩; have H5 := Lib.hid (Below.trans (HXJ.out nq) hb5); have F5 := Lib.hid hf5; clear hb5 hf5)
          go_roundw
          case rel => exact ⟨k + 1, by omega, by go_num, _, _, F5.out, H5.out, HG2.out, ht4⟩
          case measure => simp [intOf]; omega
        · clear k1 k1f k2
          have hw4 : IntKind.i64.wrap (4000 - (t.length : Int)) = ((4000 - t.length : Nat) : Int) := by rw [IntWalk.i64_in _ (by omega)]; omega
          by_cases g : 4000 - t.length < n'
          · have gt : ((4000 - t.length : Nat) : Int) < (n' : Int) := by omega
            have HR := Lib.hid (BAD.out 4 (by rw [gapBad_eq, if_neg (by omega), if_pos rfl, if_pos (by have := HPL.out; show 4000 < t.length + pu.length; omega)]) (by omega))
            clear BAD HG HI
            go_wp2
            go_quiet ((first
              | (go_at_call 9; exact HLEN.out _)
              | (go_at_call 10; exact HATT.out _)))
            have g0 := g0s.out nq; have g1 := g1s.out nq
            go_wp2
            obtain ⟨z0, z1⟩ := fault_set (u := 4) (v := (k : Int)) g0 g1
            refine bodyPost_ret (v := .tuple #[.slice none 0 0, .int .i64 0, .agg #[.int .i64 4, .int .i64 (k : Int)]]) (by simp [results, Try.results5, go_sem, z0, z1]) rfl ?_
            rw [HR.out]
            exact play_fin (r := ⟨[], 0, 4, k⟩) (Nat.le_refl _) (HX1.out.trans (HXJ.out nq)) g0 g1 rfl (SlR.nil _ _ _ _ _ _ (by simp [maxLen])) rfl rfl rfl
          have gt : decide (((4000 - t.length : Nat) : Int) < (n' : Int)) = false := by simp; omega
          have HG2 := Lib.hid (HG.out.trans (gapGo_on HI.out (by rw [gapBad_eq, if_neg (by omega), if_pos rfl, if_neg (by have := HPL.out; show ¬ 4000 < t.length + pu.length; omega)]) (t' := t.take a ++ pu ++ t.drop a) (a' := a + n') (by rw [gapDo_eq, if_neg (by omega), if_pos rfl, HPL.out])))
          clear BAD HG HI
          go_wp2
          go_quiet ((first
            | (go_at_call 9; exact HLEN.out _)
            | (go_at_call 10; exact HATT.out _)))
          go_wp2_with (go_at_call 12; refine (Put_any (HBJ.out nq) (HSJ.out nq) (by omega) (HSZ.out nq)).mono ?_; rintro e w5 ⟨rfl, hb5, hf5⟩; have H5 := Lib.hid (Below.trans (HXJ.out nq) hb5); have F5 := Lib.hid hf5; clear hb5 hf5)
          go_roundw
          case rel => exact ⟨k + 1, by omega, by go_num, _, _, F5.out, H5.out, HG2.out, by have := HPL.out; simp; omega⟩
          case measure => simp [intOf]; omega
        · clear k1 k1f k2
          by_cases gn : nu < 0
          · have HR := Lib.hid (BAD.out 3 (by rw [gapBad_eq, if_neg (by omega), if_neg (by omega), if_pos (.inl gn)]) (by omega))
            clear BAD HG HI
            go_wp2
            go_quiet ((first
              | (go_at_call 9; exact HLEN.out _)
              | (go_at_call 10; exact HATT.out _)))
            have g0 := g0s.out nq; have g1 := g1s.out nq
            go_wp2
            obtain ⟨z0, z1⟩ := fault_set (u := 3) (v := (k : Int)) g0 g1
            refine bodyPost_ret (v := .tuple #[.slice none 0 0, .int .i64 0, .agg #[.int .i64 3, .int .i64 (k : Int)]]) (by simp [results, Try.results5, go_sem, z0, z1]) rfl ?_
            rw [HR.out]
            exact play_fin (r := ⟨[], 0, 3, k⟩) (Nat.le_refl _) (HX1.out.trans (HXJ.out nq)) g0 g1 rfl (SlR.nil _ _ _ _ _ _ (by simp [maxLen])) rfl rfl rfl
          obtain ⟨N, rfl⟩ : ∃ N : Nat, nu = (N : Int) := ⟨nu.toNat, by omega⟩
          have gnf : decide ((N : Int) < 0) = false := by simp
          have hw4 : IntKind.i64.wrap ((t.length : Int) - (a : Int)) = ((t.length - a : Nat) : Int) := by rw [IntWalk.i64_in _ (by omega)]; omega
          by_cases g : (t.length - a) < N
          · have gt : (((t.length - a) : Nat) : Int) < (N : Int) := by omega
            have HR := Lib.hid (BAD.out 3 (by rw [gapBad_eq, if_neg (by omega), if_neg (by omega), if_pos (.inr (.inr (.inl ⟨rfl, gt⟩)))]) (by omega))
            clear BAD HG HI
            go_wp2
            go_quiet ((first
              | (go_at_call 9; exact HLEN.out _)
              | (go_at_call 10; exact HATT.out _)))
            have g0 := g0s.out nq; have g1 := g1s.out nq
            go_wp2
            obtain ⟨z0, z1⟩ := fault_set (u := 3) (v := (k : Int)) g0 g1
            refine bodyPost_ret (v := .tuple #[.slice none 0 0, .int .i64 0, .agg #[.int .i64 3, .int .i64 (k : Int)]]) (by simp [results, Try.results5, go_sem, z0, z1]) rfl ?_
            rw [HR.out]
            exact play_fin (r := ⟨[], 0, 3, k⟩) (Nat.le_refl _) (HX1.out.trans (HXJ.out nq)) g0 g1 rfl (SlR.nil _ _ _ _ _ _ (by simp [maxLen])) rfl rfl rfl
          have gt : decide ((((t.length - a) : Nat) : Int) < (N : Int)) = false := by simp; omega
          have HG2 := Lib.hid (HG.out.trans (gapGo_on HI.out (by rw [gapBad_eq, if_neg (by omega), if_neg (by omega), if_neg (by omega)]) (t' := t.take a ++ t.drop (a + N)) (a' := a) (by rw [gapDo_eq, if_neg (by omega), if_neg (by omega), if_pos rfl, Int.toNat_natCast])))
          clear BAD HG HI
          go_wp2
          go_quiet ((first
            | (go_at_call 9; exact HLEN.out _)
            | (go_at_call 10; exact HATT.out _)))
          go_wp2_with (go_at_call 13; refine (Del_any (HBJ.out nq) N (by omega)).mono ?_; rintro e w5 ⟨rfl, hb5, hf5⟩; have H5 := Lib.hid (Below.trans (HXJ.out nq) hb5); have F5 := Lib.hid hf5; clear hb5 hf5)
          go_roundw
          case rel => exact ⟨k + 1, by omega, by go_num, _, _, F5.out, H5.out, HG2.out, by simp; omega⟩
          case measure => simp [intOf]; omega
        · clear k1 k1f k2
          by_cases gn : nu < 0
          · have HR := Lib.hid (BAD.out 3 (by rw [gapBad_eq, if_neg (by omega), if_neg (by omega), if_pos (.inl gn)]) (by omega))
            clear BAD HG HI
            go_wp2
            go_quiet ((first
              | (go_at_call 9; exact HLEN.out _)
              | (go_at_call 10; exact HATT.out _)))
            have g0 := g0s.out nq; have g1 := g1s.out nq
            go_wp2
            obtain ⟨z0, z1⟩ := fault_set (u := 3) (v := (k : Int)) g0 g1
            refine bodyPost_ret (v := .tuple #[.slice none 0 0, .int .i64 0, .agg #[.int .i64 3, .int .i64 (k : Int)]]) (by simp [results, Try.results5, go_sem, z0, z1]) rfl ?_
            rw [HR.out]
            exact play_fin (r := ⟨[], 0, 3, k⟩) (Nat.le_refl _) (HX1.out.trans (HXJ.out nq)) g0 g1 rfl (SlR.nil _ _ _ _ _ _ (by simp [maxLen])) rfl rfl rfl
          obtain ⟨N, rfl⟩ : ∃ N : Nat, nu = (N : Int) := ⟨nu.toNat, by omega⟩
          have gnf : decide ((N : Int) < 0) = false := by simp
          by_cases g : a < N
          · have gt : ((a : Nat) : Int) < (N : Int) := by omega
            have HR := Lib.hid (BAD.out 3 (by rw [gapBad_eq, if_neg (by omega), if_neg (by omega), if_pos (.inr (.inr (.inr ⟨rfl, gt⟩)))]) (by omega))
            clear BAD HG HI
            go_wp2
            go_quiet ((first
              | (go_at_call 9; exact HLEN.out _)
              | (go_at_call 10; exact HATT.out _)))
            have g0 := g0s.out nq; have g1 := g1s.out nq
            go_wp2
            obtain ⟨z0, z1⟩ := fault_set (u := 3) (v := (k : Int)) g0 g1
            refine bodyPost_ret (v := .tuple #[.slice none 0 0, .int .i64 0, .agg #[.int .i64 3, .int .i64 (k : Int)]]) (by simp [results, Try.results5, go_sem, z0, z1]) rfl ?_
            rw [HR.out]
            exact play_fin (r := ⟨[], 0, 3, k⟩) (Nat.le_refl _) (HX1.out.trans (HXJ.out nq)) g0 g1 rfl (SlR.nil _ _ _ _ _ _ (by simp [maxLen])) rfl rfl rfl
          have gt : decide (((a : Nat) : Int) < (N : Int)) = false := by simp; omega
          have HG2 := Lib.hid (HG.out.trans (gapGo_on HI.out (by rw [gapBad_eq, if_neg (by omega), if_neg (by omega), if_neg (by omega)]) (t' := t.take (a - N) ++ t.drop a) (a' := a - N) (by rw [gapDo_eq, if_neg (by omega), if_neg (by omega), if_neg (by omega), Int.toNat_natCast])))
          clear BAD HG HI
          go_wp2
          go_quiet ((first
            | (go_at_call 9; exact HLEN.out _)
            | (go_at_call 10; exact HATT.out _)))
          go_wp2_with (go_at_call 14; refine (Back_any (HBJ.out nq) N (by omega)).mono ?_; rintro e w5 ⟨rfl, hb5, hf5⟩; have H5 := Lib.hid (Below.trans (HXJ.out nq) hb5); have F5 := Lib.hid hf5; clear hb5 hf5)
          go_roundw
          case rel => exact ⟨k + 1, by omega, by go_num, _, _, F5.out, H5.out, HG2.out, by simp; omega⟩
          case measure => simp [intOf]; omega
      · have hkm : k = m := by omega
        subst hkm
        obtain ⟨ab, L, tz, hbb, b1, b2, et⟩ := HB.out
        have HBB := Lib.hid hbb; clear hbb et
        have HR := Lib.hid (HG.out.trans (gapGo_end (by rw [HML.out]; exact Nat.le_refl _)))
        clear HG hlt hk
        go_wp2_with (first
          | (go_at_call 15; refine (Runes_any HB.out).mono ?_; rintro e w3 ⟨v, rfl, x3, o3⟩; obtain ⟨AV, cV, rfl, sV⟩ := o3.top; have SV := Lib.hid sV; have X3 := Lib.hid (HXR.out.trans x3); have HB3 := Lib.hid (HBB.out.ext x3); have f0 := X3.out.cell CZ.out.1; have f1 := X3.out.cell CZ.out.2; have ff := (WR.out.ext X3.out).2; clear sV o3 x3)
          | (go_at_call 10; refine (At_any HB3.out).mono ?_; rintro e w4 ⟨rfl, rfl⟩))
        obtain ⟨z0, z1⟩ := fault_set (u := 0) (v := 0) f0 f1
        refine bodyPost_ret (v := .tuple #[.slice AV t.length cV, .int .i64 (a : Int), .agg #[.int .i64 0, .int .i64 0]]) (by simp [results, Try.results5, go_sem, z0, z1]) rfl ?_
        rw [HR.out]
        exact play_fin (r := ⟨t, a, 0, 0⟩) (Nat.le_refl _) (HX1.out.trans X3.out) f0 f1 rfl SV.out rfl rfl rfl
      
end Go.Proofs.Ytpnflnocmekpnaa
