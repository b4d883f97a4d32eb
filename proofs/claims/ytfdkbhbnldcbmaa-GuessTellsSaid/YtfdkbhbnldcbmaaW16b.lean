/- Walk: right rules are played over a right text. -/
import Derived.Test.YtfdkbhbnldcbmaaW16
import Derived.Deep.Cut
import Derived.Deep.CutRange
namespace Go.Proofs.Ytfdkbhbnldcbmaa
open Go.RowKit
set_option linter.unusedVariables false
set_option linter.unusedSimpArgs false

set_option maxRecDepth 100000 in
set_option maxHeartbeats 4000000 in
theorem Run_plays (A : Option Addr) (n c : Nat) (l : List Rule) (X : Option Addr) (m d : Nat) (t : List Int) (w : World) (h : Rules w A n c l) (ht : Runes w X m d t) (hr : (wrongRules l).1 = 0) (hx : wrongText t = 0) :
    Calls Try.prog 36 #[.slice A n c, .slice X m d] w fun e w' => RunR l t w' e ∧ Ext w w' := by
  have e1 : Ext w ((w.alloc (.cells #[.slice none 0 0, .int .i64 0, .int .i64 0] 45)).alloc (.cells #[.int .i64 0, .int .i64 0] 38)) := ((Ext.refl w).alloc _).alloc _
  have k0 : ((w.alloc (.cells #[.slice none 0 0, .int .i64 0, .int .i64 0] 45)).alloc (.cells #[.int .i64 0, .int .i64 0] 38)).cell? ⟨w.heap.size, 0, none⟩ = some (.slice none 0 0) := by simp
  have k1 : ((w.alloc (.cells #[.slice none 0 0, .int .i64 0, .int .i64 0] 45)).alloc (.cells #[.int .i64 0, .int .i64 0] 38)).cell? ⟨w.heap.size, 1, none⟩ = some (.int .i64 0) := by simp
  have k2 : ((w.alloc (.cells #[.slice none 0 0, .int .i64 0, .int .i64 0] 45)).alloc (.cells #[.int .i64 0, .int .i64 0] 38)).cell? ⟨w.heap.size, 2, none⟩ = some (.int .i64 0) := by simp
  have k3 : ((w.alloc (.cells #[.slice none 0 0, .int .i64 0, .int .i64 0] 45)).alloc (.cells #[.int .i64 0, .int .i64 0] 38)).cell? ⟨w.heap.size + 1, 0, none⟩ = some (.int .i64 0) := by simp
  have k4 : ((w.alloc (.cells #[.slice none 0 0, .int .i64 0, .int .i64 0] 45)).alloc (.cells #[.int .i64 0, .int .i64 0] 38)).cell? ⟨w.heap.size + 1, 1, none⟩ = some (.int .i64 0) := by simp
  have wa := (Wr.new w #[.slice none 0 0, .int .i64 0, .int .i64 0] 45).ext ((Ext.refl _).alloc (.cells #[.int .i64 0, .int .i64 0] 38))
  have wb := Wr.new (w.alloc (.cells #[.slice none 0 0, .int .i64 0, .int .i64 0] 45)) #[.int .i64 0, .int .i64 0] 38
  rw [World.size_alloc] at wb
  have HC := Lib.hid (Wrongs_any A n c l _ (h.ext e1))
  have HT := Lib.hid (fun W (e : Ext w W) => Text_any X m d t W (ht.ext e))
  have HF := Lib.hid (fun W (e : Ext w W) => First_any A n c l)
  have HCl := Lib.hid (fun W (e : Ext w W) => Clone_rune one_rune (keep_rune bot) X m d t W (ht.ext e))
  have htl := Lib.hid ht.len
  generalize hW1 : (w.alloc (.cells #[.slice none 0 0, .int .i64 0, .int .i64 0] 45)).alloc (.cells #[.int .i64 0, .int .i64 0] 38) = w1 at *
  have HW1 := Lib.hid hW1; clear hW1
  obtain ⟨hr0, _, hok⟩ := wrongRules_zero hr
  have HR := Lib.hid hr0
  have HK : Hid (checkRun l t = (wrongText t, 0)) := Lib.hid (checkRun_text hr)
  have OK := Lib.hid hok
  clear hr hr0 hok
  have HX := Lib.hid hx
  have hm := (text_of hx).1; rw [htl.out] at hm
  have HCK : Hid ((checkRun l t).1 = 0) := Lib.hid (by rw [HK.out]; exact hx)
  have HO := Lib.hid (runAll_ok HCK.out)
  have HRF := Lib.hid (runF_ok HCK.out)
  clear hx
  obtain ⟨L, hL⟩ : ∃ L : Nat, L = 8 * m + 40 := ⟨_, rfl⟩
  have hL2 : L ≤ 40000 := by omega
  have HLim := Lib.hid hL; clear hL
  have HRT : Hid (runText l t = play l L ⟨t, 0, 0, 0⟩) := Lib.hid (by unfold runText; rw [htl.out, HLim.out])
  have hn0 : w.heap.size + 2 ≤ w1.heap.size := wb.1
  go_enter Try.func36, Try.ntmps36
  go_wp2_with fail
  rw [HW1.out]
  go_wp2_with (first
    | (go_at_call 31; refine HC.out.mono ?_; rintro e w2 ⟨rfl, hx2⟩; rw [HR.out])
    | (go_at_call 24; refine (HT.out _ ((e1.trans hx2).alloc _)).mono ?_; rintro e w3 ⟨rfl, hx3⟩; rw [HX.out]; have x13 := (hx2.alloc _).trans hx3)
    | (go_at_call 91; refine (HCl.out _ (e1.trans x13) (by omega) (fun _ _ h => h)).mono ?_; rintro e w4 ⟨v, rfl, ov, hx4⟩; obtain ⟨AT, dT, rfl, hsT⟩ := ov.sl; have x14 := x13.trans hx4; have e14 := e1.trans x14)
    | (go_at_call 92; refine (Limit_any m _ hm).mono ?_; rintro e w' ⟨rfl, rfl⟩; rw [← HLim.out]))
  have P0 : PlayAt w1.heap.size w4.heap.size (w4.alloc (.cells #[.slice AT t.length dT, .int .i64 0, .int .i64 0] 45)) AT t.length dT t 0 0 :=
    ⟨((SlR.lt (by omega) hsT).mono (fun _ _ h => h) (fun b hb => ⟨Nat.ne_of_lt hb.2, Nat.le_trans x13.size hb.1⟩)).ext (keep_rune _) ((Ext.refl _).alloc _), by simp, by simp, by simp⟩
  have W0 := Wr.new w4 #[.slice AT t.length dT, .int .i64 0, .int .i64 0] 45
  have E0 := (Ext.refl w4).alloc (.cells #[.slice AT t.length dT, .int .i64 0, .int .i64 0] 45)
  have wa4 := wa.ext x14; have wb4 := wb.ext x14
  have z0 := x14.cell k0; have z1 := x14.cell k1; have z2 := x14.cell k2; have z3 := x14.cell k3; have z4 := x14.cell k4
  have n1 := Nat.ne_of_lt wa4.1; have n2' := Nat.ne_of_lt wb4.1; have n3' := n1.symm; have n4' := n2'.symm
  have hle : w.heap.size ≤ w4.heap.size := e14.size
  have hle1 : w1.heap.size ≤ w4.heap.size := x14.size
  have hlen4 : t.length ≤ 4000 := by rw [htl.out]; exact hm
  clear hx2 hx3 hx4 x13 ov hsT HC HT HCl HF k0 k1 k2 k3 k4 x14
  generalize hW4 : w4.alloc (.cells #[.slice AT t.length dT, .int .i64 0, .int .i64 0] 45) = w5 at *
  go_loopw [10] (fun i wr => ∃ (AT : Option Addr) (mT dT : Nat) (tx : List Int) (a s p : Nat), i = .int .i64 a ∧ PlayAt w1.heap.size w4.heap.size wr AT mT dT tx s p ∧ Wr wr w4.heap.size ∧ a ≤ mT ∧ mT ≤ 4000 ∧ s ≤ L ∧ p ≤ s ∧ runText l t = play l (L - s) ⟨tx, a, s, p⟩ ∧ Ext w4 wr)
    (fun _ wr => L - cellN (wr.cell? ⟨w4.heap.size, 1, none⟩))
  case atStart => exact ⟨AT, t.length, dT, t, 0, 0, 0, rfl, P0, W0, by omega, hlen4, by omega, by omega, HRT.out, E0⟩
  case round =>
    obtain ⟨AT, mT, dT, tx, a, s, p, rfl, PA, WA, ha, hmT, hs, hps, hplay, hx⟩ := hrel
    have HP := Lib.hid hplay; clear hplay
    have y0 := PA.c0; have y1 := PA.c1; have y2 := PA.c2
    have wz := WA.2
    have va := (wa4.ext hx).2; have vb := (wb4.ext hx).2
    have v0 := hx.cell z0; have v1 := hx.cell z1; have v2 := hx.cell z2; have v3 := hx.cell z3; have v4 := hx.cell z4
    have ew := e14.trans hx
    have hPL := Lib.hid PA.text.len
    by_cases hlt : a < mT
    · by_cases hL : s = L
      · have HO2 : Hid (runAll l t = ⟨[], 0, 0, 9⟩) := Lib.hid (by rw [HO.out, HP.out, hL, Nat.sub_self, play_out (by simpa [hPL.out] using hlt)])
        have HF2 : Hid (runF l t = (9, 0)) := Lib.hid (by rw [HRF.out, ← HO.out, HO2.out])
        have hq : ((s : Int) == (L : Int)) = true := by rw [hL]; simp
        clear hL
        go_wp2
        refine bodyPost_ret (v := .tuple #[.agg #[.slice none 0 0, .int .i64 0, .int .i64 0], .agg #[.int .i64 9, .int .i64 0]]) (by simp [results, Try.results36, go_sem, v0, v1, v2, v3, v4]) rfl ?_
        exact ⟨RunR.bad HO2.out HF2.out rfl, by repeat (first | exact ew | refine ext_set ?_ (by omega) _ _)⟩
      · have hq : ((s : Int) == (L : Int)) = false := by simp; omega
        have hsL : s < L := by omega
        have P1 := PA.step (x := (s : Int) + 1) (by omega)
        have W1 := WA.set ⟨w4.heap.size, 1, none⟩ (.int .i64 ((s : Int) + 1))
        have E1 := ext_set hx (Nat.le_refl _) 1 (.int .i64 ((s : Int) + 1))
        by_cases hk : first l tx a < 0
        · have HST : Hid (runText l t = play l (L - (s + 1)) ⟨tx, a + 1, s + 1, p⟩) := Lib.hid (by
            rw [HP.out, show L - s = (L - (s + 1)) + 1 by omega, play_next (by simpa [hPL.out] using hlt) (playStep_no hk)])
          have hk' : decide (first l tx a < 0) = true := by simpa using hk
          clear hL hk
          go_wp2_with (go_at_call 90; refine (First_any A n c l AT mT dT tx a _ (h.ext (e14.trans E1)) P1.runes hmT ha OK.out).mono ?_; rintro e w6 ⟨rfl, hx6⟩)
          go_roundw
          case rel => exact ⟨AT, mT, dT, tx, a + 1, s + 1, p, by go_num, P1.ext hx6, W1.ext hx6, by omega, hmT, by omega, by omega, HST.out, E1.trans hx6⟩
          case measure => rw [cellN_nat (P1.ext hx6).c1, cellN_nat y1]; omega
        · obtain ⟨i, r, hir, hhere, hfi⟩ := first_mem (by omega : 0 ≤ first l tx a)
          have HI := Lib.hid hir; have HH := Lib.hid hhere; have HFI := Lib.hid hfi
          have hroom := here_room hhere; rw [hPL.out] at hroom
          have hrok := OK.out r (List.mem_of_getElem? hir)
          have hok2 := hrok.ls; have hok4 := hrok.lt
          have HRO := Lib.hid hrok
          have hil : i < n := by rw [← h.len]; exact (List.getElem?_eq_some_iff.1 hir).1
          clear hL hk hir hhere hfi hrok
          go_upto_region 19 with (go_at_call 90; refine (First_any A n c l AT mT dT tx a _ (h.ext (e14.trans E1)) P1.runes hmT ha OK.out).mono ?_; rintro e w6 ⟨rfl, hx6⟩; rw [HFI.out]; have P2 := P1.ext hx6; have W2 := W1.ext hx6; have E2 := E1.trans hx6; have E3 := ext_set E2 (Nat.le_refl _) 2 (.int .i64 ((p : Int) + 1)); obtain ⟨b, off, s', f', A1, n1', c1, A2, n2, c2, A3, n3, c3, A4, n4, c4, q, rfl, ⟨_, hne⟩, hv, r0, r1, r2, r3, r4, r5, r6⟩ := (h.ext (e14.trans E3)).rule HI.out; have x2 := P2.c2; have xz := W2.2; have hBs := W2.1)
          have P3 := (P2.puts (x := (p : Int) + 1) (by omega)).ext ((Ext.refl _).alloc (.cells #[.bool s', .bool f', .slice A1 n1' c1, .slice A2 n2 c2, .slice A3 n3 c3, .slice A4 n4 c4, .int .i64 q] 25))
          have W3 := (W2.set ⟨w4.heap.size, 2, none⟩ (.int .i64 ((p : Int) + 1))).ext ((Ext.refl _).alloc (.cells #[.bool s', .bool f', .slice A1 n1' c1, .slice A2 n2 c2, .slice A3 n3 c3, .slice A4 n4 c4, .int .i64 q] 25))
          have E4 := E3.alloc (.cells #[.bool s', .bool f', .slice A1 n1' c1, .slice A2 n2 c2, .slice A3 n3 c3, .slice A4 n4 c4, .int .i64 q] 25)
          have hR4 := RuleAt.new (s := s') (f := f') (A1 := A1) (n1 := n1') (c1 := c1) (A2 := A2) (n2 := n2) (c2 := c2) (A3 := A3) (n3 := n3) (c3 := c3) (A4 := A4) (n4 := n4) (c4 := c4) (q := q) (w6.setCell ⟨w4.heap.size, 2, none⟩ (.int .i64 ((p : Int) + 1))) 25
          have hV4 := hv.ext (((Ext.refl _).alloc (.cells #[.bool s', .bool f', .slice A1 n1' c1, .slice A2 n2 c2, .slice A3 n3 c3, .slice A4 n4 c4, .int .i64 q] 25)).agree top)
          rw [World.size_setCell] at hR4
          have hB6 : w6.heap.size < ((w6.setCell ⟨w4.heap.size, 2, none⟩ (.int .i64 ((p : Int) + 1))).alloc (.cells #[.bool s', .bool f', .slice A1 n1' c1, .slice A2 n2 c2, .slice A3 n3 c3, .slice A4 n4 c4, .int .i64 q] 25)).heap.size := by simp
          have hB7 : w4.heap.size ≠ w6.heap.size := Nat.ne_of_lt hBs
          have n5 : w.heap.size ≠ w6.heap.size := by omega
          have n6 : w.heap.size + 1 ≠ w6.heap.size := by omega
          clear r0 r1 r2 r3 r4 r5 r6 x2 xz E3 P2 W2 hx6 hv
          generalize (w6.setCell ⟨w4.heap.size, 2, none⟩ (.int .i64 ((p : Int) + 1))).alloc (.cells #[.bool s', .bool f', .slice A1 n1' c1, .slice A2 n2 c2, .slice A3 n3 c3, .slice A4 n4 c4, .int .i64 q] 25) = w8 at *
          have x0 := P3.c0; have x1 := P3.c1; have x2 := P3.c2
          have xz := W3.2
          have q0 := E4.cell z0; have q1 := E4.cell z1; have q2 := E4.cell z2; have q3 := E4.cell z3; have q4 := E4.cell z4
          have qa := (wa4.ext E4).2; have qb := (wb4.ext E4).2
          have hl2 := hok2; rw [hV4.source.len] at hl2
          have hl4 := hok4; rw [hV4.target.len] at hl4
          have HN2 := Lib.hid hV4.source.len
          have HN4 := Lib.hid hV4.target.len
          have HQ := Lib.hid hV4.cursor
          have t3 := hR4.h3; have t5 := hR4.h5; have t6 := hR4.h6
          clear y0 y1 y2 wz va vb v0 v1 v2 v3 v4 z0 z1 z2 z3 z4
          by_cases hbig : 4000 < (mT : Int) - (n2 : Int) + (n4 : Int)
          · have HO2 : Hid (runAll l t = ⟨[], 0, 0, 4⟩) := Lib.hid (by
              rw [HO.out, HP.out, show L - s = (L - (s + 1)) + 1 by omega, play_none (by simpa [hPL.out] using hlt) (playStep_much HFI.out HI.out (by rw [hPL.out, HN2.out, HN4.out]; exact hbig))])
            have HF2 : Hid (runF l t = (4, 0)) := Lib.hid (by rw [HRF.out, ← HO.out, HO2.out])
            have HB : decide (4000 < (mT : Int) - (n2 : Int) + (n4 : Int)) = true := by simpa using hbig
            clear hbig hroom
            go_wp2
            refine bodyPost_ret (v := .tuple #[.agg #[.slice none 0 0, .int .i64 0, .int .i64 0], .agg #[.int .i64 4, .int .i64 0]]) (by simp [results, Try.results36, go_sem, q0, q1, q2, q3, q4]) rfl ?_
            exact ⟨RunR.bad HO2.out HF2.out rfl, by repeat (first | exact e14.trans E4 | refine ext_set ?_ (by omega) _ _)⟩
          · have HB : decide (4000 < (mT : Int) - (n2 : Int) + (n4 : Int)) = false := by simpa using hbig
            have HST : Hid (runText l t = play l (L - (s + 1)) ⟨putAt r tx a, a + r.cursor.toNat, s + 1, p + 1⟩) := Lib.hid (by
              rw [HP.out, show L - s = (L - (s + 1)) + 1 by omega, play_next (by simpa [hPL.out] using hlt) (playStep_put HFI.out HI.out (by rw [hPL.out, HN2.out, HN4.out]; exact hbig))])
            have HBG := Lib.hid hbig; clear hbig
            have hro := hroom; rw [HN2.out] at hro
            have hcT := P3.text.cap
            have hs1 := fun W => run_cut_h T_rune AT mT dT (a : Int) a rfl (by omega) W
            have hs2 := fun W => run_cut_l T_rune AT mT dT ((a : Int) + (n2 : Int)) (a + n2) (by omega) (by omega) W
            clear hroom
            have hw : IntKind.i64.wrap ((a : Int) + n2) = (a : Int) + n2 := IntWalk.i64_in _ (by omega)
            go_wp2
            go_still_tail 14, (by kernel_rfl)
            change wpList _ _ _ _ _ w8.drew
            clear hw
            have E5 := E4.drew
            have hfl : [tx.take a, r.target, tx.drop (a + n2)].flatten = putAt r tx a := by unfold putAt; rw [HN2.out]; simp
            have hplen := putAt_len (r := r) (t := tx) (a := a) (by rw [HN2.out, hPL.out]; exact hro)
            rw [hPL.out, HN2.out, HN4.out] at hplen
            have P5 := P3.ext (Ext.refl w8).drew
            have hT := pieces_new AT A4 (cutA AT dT (a + n2) 1) a dT n4 c4 (mT - (a + n2)) (dT - (a + n2)) (tx.take a) r.target (tx.drop (a + n2)) 23 (P5.runes.take (by omega)) (hV4.target.ext (Ext.refl w8).drew) (P5.runes.drop (by omega))
            have HC := Lib.hid (Concat_rune one_rune (keep_rune bot) _ 3 3 _ _ hT (by rw [hfl]; omega) (fun _ _ h => h))
            rw [hfl] at HC
            clear hT hfl
            have hq0 := HRO.out.c0; have hq1 := HRO.out.c1
            rw [HQ.out] at hq0 hq1; rw [HN4.out] at hq1
            have t6d := (Ext.refl w8).drew.cell t6
            have hB8 := hB7.symm
            go_wp2_with (go_at_call 89; refine HC.out.mono ?_; rintro e w9 ⟨v, rfl, ov, ex9⟩; obtain ⟨AX, cX, rfl, sX⟩ := ov.sl; have EB := ((Ext.refl w8.drew).alloc (.cells #[.slice AT a dT, .slice A4 n4 c4, .slice (cutA AT dT (a + n2) 1) (mT - (a + n2)) (dT - (a + n2))] 23)).trans ex9; have P6 := P5.ext EB; have W6 := (W3.ext (Ext.refl w8).drew).ext EB; have g0 := P6.c0; have gz := W6.2; have g6 := EB.cell t6d)
            have hw4 := W3.1
            have sX' : SlR rRune 1 (fun b => b ≠ w4.heap.size ∧ w1.heap.size ≤ b) w9 AX (putAt r tx a).length cX (putAt r tx a) := sX.mono (fun _ _ h => h) (fun b hb => by simp at hb; omega)
            have P7 := P6.turn sX'
            have hcur : ((a : Int) + q) = ((a + r.cursor.toNat : Nat) : Int) := by rw [HQ.out]; omega
            go_roundw
            case rel => exact ⟨AX, _, cX, putAt r tx a, a + r.cursor.toNat, s + 1, p + 1, by rw [← hcur], P7, W6.set _ _, by rw [HQ.out]; omega, by have := HBG.out; omega, by omega, by omega, HST.out, ext_set (E5.trans EB) (Nat.le_refl _) _ _⟩
            case measure => rw [cellN_nat P7.c1, cellN_nat PA.c1]; omega
    · have HO2 : Hid (runAll l t = ⟨tx, s, p, 0⟩) := Lib.hid (by rw [HO.out, HP.out, play_end (by simpa [hPL.out] using hlt)])
      have HF2 : Hid (runF l t = (0, 0)) := Lib.hid (by rw [HRF.out, ← HO.out, HO2.out])
      go_wp2
      refine bodyPost_ret (v := .tuple #[.agg #[.slice AT mT dT, .int .i64 s, .int .i64 p], .agg #[.int .i64 0, .int .i64 0]]) (by simp [results, Try.results36, go_sem, v0, v1, v2, v3, v4]) rfl ?_
      exact ⟨RunR.fine HO2.out HF2.out (by
        refine SlR.mono (ok := fun b => b ≠ w4.heap.size ∧ w1.heap.size ≤ b) ?_ (fun _ _ h => h) (fun _ _ => trivial)
        repeat (first | exact PA.text | refine SlR.far ?_ (keep_rune _) (fun b hb => by have := hb.2; omega))), by repeat (first | exact ew | refine ext_set ?_ (by omega) _ _)⟩

theorem Run_any (A : Option Addr) (n c : Nat) (l : List Rule) (X : Option Addr) (m d : Nat) (t : List Int) (w : World) (h : Rules w A n c l) (ht : Runes w X m d t) :
    Calls Try.prog 36 #[.slice A n c, .slice X m d] w fun e w' => RunR l t w' e ∧ Ext w w' := by
  by_cases hr : (wrongRules l).1 = 0
  · by_cases hx : wrongText t = 0
    · exact Run_plays A n c l X m d t w h ht hr hx
    · exact Run_text A n c l X m d t w h ht hr hx
  · exact Run_rules A n c l X m d t w h ht hr

end Go.Proofs.Ytfdkbhbnldcbmaa
