/- Walk: rules are played over a text, by the document. -/
import Derived.Test.YtfdkbhbnldcbmaaW17
import Derived.Deep.Cut
import Derived.Deep.CutRange
namespace Go.Proofs.Ytfdkbhbnldcbmaa
open Go.RowKit
set_option linter.unusedVariables false
set_option linter.unusedSimpArgs false

theorem fresh_row (B : Nat) (w : World) (o : Obj) (hb : B ≤ w.heap.size) : OwnR rRune 21 1 B ((w.alloc o).alloc (.cells #[] 21)) (.slice (some ⟨w.heap.size + 1, 0, none⟩) 0 0) [] := by
  have := OwnR.empty rRune 21 1 B (w.alloc o) (by simp; omega)
  simpa only [World.size_alloc] using this

theorem one_new (w : World) (x : Int) (t : TypeId) (hx : -2147483648 ≤ x ∧ x ≤ 2147483647) : Runes (w.alloc (.cells #[.int .i32 x] t)) (some ⟨w.heap.size, 0, none⟩) 1 1 [x] := by
  refine SlR.fresh rfl (by unfold maxLen; omega) fun k u huu => ?_
  match k, huu with
  | 0, huu => cases huu; exact ⟨[.int .i32 x], rfl, ⟨rfl, hx⟩, fun j v hv => by match j, hv with | 0, hv => simpa using hv⟩

set_option maxRecDepth 100000 in
set_option maxHeartbeats 8000000 in
theorem refRun_plays (A : Option Addr) (n c : Nat) (l : List Rule) (X : Option Addr) (m d : Nat) (t : List Int) (w : World) (h : Rules w A n c l) (ht : Runes w X m d t) (hr : (checkRun l t).1 = 0) :
    Calls Try.prog 37 #[.slice A n c, .slice X m d] w fun e w' => RunR l t w' e ∧ Ext w w' := by
  have e1 : Ext w ((w.alloc (.cells #[.slice none 0 0, .int .i64 0, .int .i64 0] 45)).alloc (.cells #[.int .i64 0, .int .i64 0] 38)) := ((Ext.refl w).alloc _).alloc _
  have k0 : ((w.alloc (.cells #[.slice none 0 0, .int .i64 0, .int .i64 0] 45)).alloc (.cells #[.int .i64 0, .int .i64 0] 38)).cell? ⟨w.heap.size, 0, none⟩ = some (.slice none 0 0) := by simp
  have k1 : ((w.alloc (.cells #[.slice none 0 0, .int .i64 0, .int .i64 0] 45)).alloc (.cells #[.int .i64 0, .int .i64 0] 38)).cell? ⟨w.heap.size, 1, none⟩ = some (.int .i64 0) := by simp
  have k2 : ((w.alloc (.cells #[.slice none 0 0, .int .i64 0, .int .i64 0] 45)).alloc (.cells #[.int .i64 0, .int .i64 0] 38)).cell? ⟨w.heap.size, 2, none⟩ = some (.int .i64 0) := by simp
  have k3 : ((w.alloc (.cells #[.slice none 0 0, .int .i64 0, .int .i64 0] 45)).alloc (.cells #[.int .i64 0, .int .i64 0] 38)).cell? ⟨w.heap.size + 1, 0, none⟩ = some (.int .i64 0) := by simp
  have k4 : ((w.alloc (.cells #[.slice none 0 0, .int .i64 0, .int .i64 0] 45)).alloc (.cells #[.int .i64 0, .int .i64 0] 38)).cell? ⟨w.heap.size + 1, 1, none⟩ = some (.int .i64 0) := by simp
  have wa := (Wr.new w #[.slice none 0 0, .int .i64 0, .int .i64 0] 45).ext ((Ext.refl _).alloc (.cells #[.int .i64 0, .int .i64 0] 38))
  have wb := Wr.new (w.alloc (.cells #[.slice none 0 0, .int .i64 0, .int .i64 0] 45)) #[.int .i64 0, .int .i64 0] 38
  rw [World.size_alloc] at wb
  have HC := Lib.hid (Check_any A n c l X m d t _ (h.ext e1) (ht.ext e1))
  have htl := Lib.hid ht.len
  generalize hW1 : (w.alloc (.cells #[.slice none 0 0, .int .i64 0, .int .i64 0] 45)).alloc (.cells #[.int .i64 0, .int .i64 0] 38) = w1 at *
  have HW1 := Lib.hid hW1; clear hW1
  have hrr : (wrongRules l).1 = 0 := by
    by_cases hz : (wrongRules l).1 = 0
    · exact hz
    · rw [checkRun_rules hz] at hr; exact absurd hr hz
  have hxx : wrongText t = 0 := by rw [checkRun_text hrr] at hr; exact hr
  have hok := (wrongRules_zero hrr).2.2
  have OK := Lib.hid hok
  have HCK : Hid (checkRun l t = (0, 0)) := Lib.hid (by rw [checkRun_text hrr, hxx])
  have hm := (text_of hxx).1; rw [htl.out] at hm
  have HO := Lib.hid (runAll_ok hr)
  have HRF := Lib.hid (runF_ok hr)
  clear hr hrr hxx hok
  obtain ⟨L, hL⟩ : ∃ L : Nat, L = 8 * m + 40 := ⟨_, rfl⟩
  have hL2 : L ≤ 40000 := by omega
  have HLim := Lib.hid hL; clear hL
  have HRT : Hid (runText l t = play l L ⟨t, 0, 0, 0⟩) := Lib.hid (by unfold runText; rw [htl.out, HLim.out])
  have hn0 : w.heap.size + 2 ≤ w1.heap.size := wb.1
  go_enter Try.func37, Try.ntmps37
  go_wp2_with fail
  rw [HW1.out]
  go_wp2_with (first
    | (go_at_call 33; refine HC.out.mono ?_; rintro e w2 ⟨rfl, hx2⟩; rw [HCK.out]; have x12 := hx2.alloc (.cells #[.int .i64 0, .int .i64 0] 38); have o0 := fresh_row _ w2 (.cells #[.int .i64 0, .int .i64 0] 38) (hx2.size))
    | (at_builtin
       refine wpList_appS T_rune (by omega) rfl (.tmp 25) (.tmp 26) rfl rfl o0 rfl (ht.ext ((e1.trans x12).alloc (.cells #[] 21))) (fun _ _ h => h) one_rune (keep_rune bot) (bot_no _) ?_ (x12.alloc (.cells #[] 21)).size ?_
       · simp; omega
       intro v4 w4 o4 g4 hat4
       have x14 := (x12.alloc (.cells #[] 21)).app g4 o0
       obtain ⟨AR0, cR0, rfl, s4⟩ := o4.slOwn))
  have e14 := e1.trans x14
  have D0 : DocAt 21 w1.heap.size w4.heap.size (w4.alloc (.cells #[.slice none 0 0, .int .i64 0, .int .i64 0] 45)) (.slice none 0 0) [] AR0 _ cR0 t 0 0 :=
    ⟨OwnR.nil _ _ _ _ _, by simp [Value.ownBlock], ((SlR.lt (by omega) s4).mono (fun _ _ h => h) (fun b hb => ⟨by simp [Value.ownBlock], Nat.ne_of_lt hb.2⟩)).ext (keep_rune _) ((Ext.refl _).alloc _), by simp, by simp, by simp, Wr.new _ _ _⟩
  have hb1 : w1.heap.size ≤ w4.heap.size := x14.size
  have hlen4 : t.length = m := htl.out
  simp only [List.nil_append, hlen4] at D0
  have E0 := x14.alloc (.cells #[.slice none 0 0, .int .i64 0, .int .i64 0] 45)
  clear g4 hat4 o0 o4 s4 hx2 x12 HC x14 e14 hlen4
  generalize hW5 : w4.alloc (.cells #[.slice none 0 0, .int .i64 0, .int .i64 0] 45) = w5 at *
  clear hW5
  simp only [List.nil_append, htl.out]
  go_loopw [7, 8, 9] (fun vl vd vr wr => ∃ (D R : List Int) (A' : Option Addr) (nR c' q s p : Nat), vl = .int .i64 (q : Int) ∧ vr = .slice A' nR c' ∧ DocAt 21 w1.heap.size w4.heap.size wr vd D A' nR c' R s p ∧ D.length + nR ≤ 4000 ∧ s + q ≤ 40000 ∧ p ≤ s ∧ runText l t = play l q ⟨D ++ R, D.length, s, p⟩ ∧ Ext w1 wr)
    (fun vl _ _ _ => (intOf vl).toNat)
  case atStart => exact ⟨[], t, AR0, m, cR0, L, 0, 0, by have := HLim.out; congr 1; omega, rfl, D0, by simp; omega, by omega, by omega, HRT.out, E0⟩
  case round =>
    obtain ⟨D, R, A', nR, c', q, s, p, rfl, rfl, PD, hm4, hs, hps, hplay, hx⟩ := hrel
    have HP := Lib.hid hplay; clear hplay
    obtain ⟨AD, cD, rfl, sD⟩ := PD.done.slOwn
    have y0 := PD.c0; have y1 := PD.c1; have y2 := PD.c2
    have wz := PD.wr.2
    have va := (wa.ext hx).2; have vb := (wb.ext hx).2
    have v0 := hx.cell k0; have v1 := hx.cell k1; have v2 := hx.cell k2; have v3 := hx.cell k3; have v4 := hx.cell k4
    have ew := e1.trans hx
    have hRL := Lib.hid PD.rest.len
    have hcR := PD.rest.cap
    by_cases hlt : 0 < nR
    · have hlt' : D.length < (D ++ R).length := by rw [List.length_append, hRL.out]; omega
      by_cases hL : q = 0
      · have HO2 : Hid (runAll l t = ⟨[], 0, 0, 9⟩) := Lib.hid (by rw [HO.out, HP.out, hL, play_out hlt'])
        have HF2 : Hid (runF l t = (9, 0)) := Lib.hid (by rw [HRF.out, ← HO.out, HO2.out])
        subst hL
        clear hlt'
        go_wp2
        refine bodyPost_ret (v := .tuple #[.agg #[.slice none 0 0, .int .i64 0, .int .i64 0], .agg #[.int .i64 9, .int .i64 0]]) (by simp [results, Try.results37, go_sem, v0, v1, v2, v3, v4]) rfl ?_
        exact ⟨RunR.bad HO2.out HF2.out rfl, by repeat (first | exact ew | refine ext_set ?_ (by omega) _ _)⟩
      · obtain ⟨q', rfl⟩ : ∃ q' : Nat, q = q' + 1 := ⟨q - 1, by omega⟩
        have HLT := Lib.hid hlt'; clear hlt' hL
        have P1 := PD.step (x := (s : Int) + 1) (by omega)
        have E1 := ext_set hx hb1 1 (.int .i64 ((s : Int) + 1))
        go_upto_region 13 with fail
        clear v0 v1 v2 v3 v4 va vb y0 y1 y2 wz sD
        generalize wr.setCell ⟨w4.heap.size, 1, none⟩ (.int .i64 ((s : Int) + 1)) = w6 at *
        obtain ⟨A0, c0, e0, sD1⟩ := P1.done.slOwn
        simp only [Value.slice.injEq, true_and] at e0
        obtain ⟨rfl, rfl⟩ := e0
        have o1 := OwnR.empty rRune 21 1 w6.heap.size w6 (Nat.le_refl _)
        have f1 := (Ext.refl w6).alloc (.cells #[] 21)
        have hdl : (D ++ R).length = D.length + nR := by rw [List.length_append, hRL.out]
        have HDL := Lib.hid hdl; clear hdl
        by_cases hk : first l (D ++ R) D.length < 0
        · have HST := Lib.hid (playStep_no (s := s) (p := p) hk)
          have hk' : decide (first l (D ++ R) D.length < 0) = true := by simpa using hk
          clear hk
          go_wp2_with (first
            | (at_builtin
               refine wpList_appS T_rune (by omega) rfl (.tmp 42) (.tmp 43) rfl rfl o1 rfl (sD1.ext (keep_rune _) f1) (fun _ _ h => h) one_rune (keep_rune bot) (bot_no _) ?_ f1.size ?_
               · simp; omega
               intro v7 w7 o7 g7 hat7
               have f7 := f1.app g7 o1)
            | (at_builtin
               refine wpList_appS T_rune (by omega) rfl (.tmp 44) (.tmp 45) rfl rfl o7 rfl (P1.rest.ext (keep_rune _) f7) (fun _ _ h => h) one_rune (keep_rune bot) (bot_no _) ?_ f7.size ?_
               · simp; omega
               intro v8 w8 o8 g8 hat8
               have f8 := f7.app g8 o7
               simp only [List.nil_append] at o8
               obtain ⟨AX, cX, rfl, s8⟩ := o8.top
               simp only [List.length_append] at s8)
            | (go_at_call 35
               refine (refWhich_any A n c l AX _ cX _ D.length w8 (h.ext ((e1.trans E1).trans f8)) s8 (by rw [hRL.out]; exact hm4) (by omega) OK.out).mono ?_
               rintro e w9 ⟨rfl, f9⟩
               have P9 := P1.ext (f8.trans f9)
               obtain ⟨x, hxx⟩ := P9.rest.idx hlt
               obtain ⟨b, off, rfl, ⟨hb9, hbn⟩, hcx, hx32⟩ := P9.rest.rune hxx
               simp only [Nat.add_zero] at hcx
               have HX := Lib.hid hxx; clear hxx
               have P10 := P9.ext ((Ext.refl w9).alloc (.cells #[.int .i32 x] 21))
               have s10 := one_new w9 x 21 hx32
               have hs1 := fun W => run_cut_l T_rune (some ⟨b, off, none⟩) nR c' 1 1 rfl (by omega) W)
            | (at_builtin
               refine wpList_appS T_rune (by omega) rfl (.tmp 52) (.tmp 56) rfl rfl P10.done rfl s10 (fun _ _ h => h) one_rune (keep_rune bot) (bot_no _) ?_ (((E1.trans f8).trans f9).alloc (.cells #[.int .i32 x] 21)).size ?_
               · omega
               intro v11 w11 o11 g11 hat11
               have P11 := P10.grow o11 g11 hat11
               have E11 := (((E1.trans f8).trans f9).alloc (.cells #[.int .i32 x] 21)).app g11 P10.done))
          have hR1 : R = x :: R.drop 1 := by have := drop_cons HX.out; simpa using this
          go_roundw
          case rel => exact ⟨D ++ [x], R.drop 1, _, nR - 1, c' - 1, q', s + 1, p, rfl, rfl, P11.cut hlt, by simp; omega, by omega, by omega, by
            rw [HP.out, play_next HLT.out HST.out, List.append_assoc, List.singleton_append, ← hR1]; simp, E11⟩
          case measure => simp [intOf]
        · obtain ⟨i, r, hir, hhere, hfi⟩ := first_mem (by omega : 0 ≤ first l (D ++ R) D.length)
          have HI := Lib.hid hir; have HFI := Lib.hid hfi
          have hroom := here_room hhere; rw [HDL.out] at hroom
          have hrok := OK.out r (List.mem_of_getElem? hir)
          have hok2 := hrok.ls; have hok4 := hrok.lt; have hq0 := hrok.c0; have hq1 := hrok.c1
          have hil : i < n := by rw [← h.len]; exact (List.getElem?_eq_some_iff.1 hir).1
          clear hk hir hhere hfi hrok
          go_upto_region 19 with (first
            | (at_builtin
               refine wpList_appS T_rune (by omega) rfl (.tmp 42) (.tmp 43) rfl rfl o1 rfl (sD1.ext (keep_rune _) f1) (fun _ _ h => h) one_rune (keep_rune bot) (bot_no _) ?_ f1.size ?_
               · simp; omega
               intro v7 w7 o7 g7 hat7
               have f7 := f1.app g7 o1)
            | (at_builtin
               refine wpList_appS T_rune (by omega) rfl (.tmp 44) (.tmp 45) rfl rfl o7 rfl (P1.rest.ext (keep_rune _) f7) (fun _ _ h => h) one_rune (keep_rune bot) (bot_no _) ?_ f7.size ?_
               · simp; omega
               intro v8 w8 o8 g8 hat8
               have f8 := f7.app g8 o7
               simp only [List.nil_append] at o8
               obtain ⟨AX, cX, rfl, s8⟩ := o8.top
               simp only [List.length_append] at s8)
            | (go_at_call 35
               refine (refWhich_any A n c l AX _ cX _ D.length w8 (h.ext ((e1.trans E1).trans f8)) s8 (by rw [hRL.out]; exact hm4) (by omega) OK.out).mono ?_
               rintro e w9 ⟨rfl, f9⟩
               rw [HFI.out]
               have P9 := P1.ext (f8.trans f9)
               have E9 := (E1.trans f8).trans f9
               have E10 := ext_set E9 hb1 2 (.int .i64 ((p : Int) + 1))
               obtain ⟨b, off, s', f', A1, n1', c1, A2, n2, c2, A3, n3, c3, A4, n4, c4, qc, rfl, ⟨_, hne⟩, hv, r0, r1, r2, r3, r4, r5, r6⟩ := (h.ext (e1.trans E10)).rule HI.out
               have x2 := P9.c2; have xz := P9.wr.2; have hBs := P9.wr.1))
          have hvd : (Value.slice AD D.length cD).ownBlock ≠ some w9.heap.size := fun e => by have := (P9.done.lt _ e).2; omega
          have P10 := (P9.puts (x := (p : Int) + 1) (by omega)).ext ((Ext.refl _).alloc (.cells #[.bool s', .bool f', .slice A1 n1' c1, .slice A2 n2 c2, .slice A3 n3 c3, .slice A4 n4 c4, .int .i64 qc] 25))
          have E11 := E10.alloc (.cells #[.bool s', .bool f', .slice A1 n1' c1, .slice A2 n2 c2, .slice A3 n3 c3, .slice A4 n4 c4, .int .i64 qc] 25)
          have hR4 := RuleAt.new (s := s') (f := f') (A1 := A1) (n1 := n1') (c1 := c1) (A2 := A2) (n2 := n2) (c2 := c2) (A3 := A3) (n3 := n3) (c3 := c3) (A4 := A4) (n4 := n4) (c4 := c4) (q := qc) (w9.setCell ⟨w4.heap.size, 2, none⟩ (.int .i64 ((p : Int) + 1))) 25
          have hV4 := hv.ext (((Ext.refl _).alloc (.cells #[.bool s', .bool f', .slice A1 n1' c1, .slice A2 n2 c2, .slice A3 n3 c3, .slice A4 n4 c4, .int .i64 qc] 25)).agree top)
          rw [World.size_setCell] at hR4
          have hB6 : w9.heap.size < ((w9.setCell ⟨w4.heap.size, 2, none⟩ (.int .i64 ((p : Int) + 1))).alloc (.cells #[.bool s', .bool f', .slice A1 n1' c1, .slice A2 n2 c2, .slice A3 n3 c3, .slice A4 n4 c4, .int .i64 qc] 25)).heap.size := by simp
          clear r0 r1 r2 r3 r4 r5 r6 x2 xz E10 E9 P9 hv hBs hne o7 g7 hat7 o8 g8 hat8 f7 f8 f9 s8 f1 o1 sD1 P1 E1
          generalize (w9.setCell ⟨w4.heap.size, 2, none⟩ (.int .i64 ((p : Int) + 1))).alloc (.cells #[.bool s', .bool f', .slice A1 n1' c1, .slice A2 n2 c2, .slice A3 n3 c3, .slice A4 n4 c4, .int .i64 qc] 25) = w11 at *
          have t3 := hR4.h3; have t5 := hR4.h5; have t6 := hR4.h6
          have hl2 := hok2; rw [hV4.source.len] at hl2 hroom
          have hl4 := hok4; rw [hV4.target.len] at hl4
          have HN2 := Lib.hid hV4.source.len
          have HN4 := Lib.hid hV4.target.len
          have HQ := Lib.hid hV4.cursor
          rw [hV4.cursor] at hq0 hq1; rw [hV4.target.len] at hq1
          obtain ⟨k, rfl⟩ := Int.eq_ofNat_of_zero_le hq0
          have hn2 : n2 ≤ nR := by omega
          have hkn : k ≤ n4 := by omega
          have hB7 : w9.heap.size ≠ w11.heap.size := Nat.ne_of_lt hB6
          have hc1 := fun W => run_cut_l T_rune A' nR c' (n2 : Int) n2 rfl hn2 W
          have o2 := OwnR.empty rRune 21 1 w11.heap.size w11.drew (Nat.le_refl _)
          have f2 := ((Ext.refl w11).drew).alloc (.cells #[] 21)
          clear hroom hok2 hok4 hq0 hq1
          go_region_held3 (fun w' => w'.cell? ⟨w9.heap.size, 3, none⟩ = some (.slice A2 n2 c2) ∧ w'.cell? ⟨w9.heap.size, 5, none⟩ = some (.slice A4 n4 c4))
            (first | go_keep | exact ⟨p3, p5⟩ | exact ⟨z3, z5⟩)
            (first
              | (refine step_appS T_rune (by omega) rfl (.tmp 68) (.tmp 70) rfl rfl o2 rfl (hV4.target.ext f2) (fun _ _ h => h) one_rune (keep_rune bot) (bot_no _) ?_ f2.size ?_
                 · simp; omega
                 intro v12 w12 o12 g12 hat12
                 have f12 := f2.app g12 o2
                 simp only [List.nil_append] at o12
                 have p3 := f12.cell t3; have p5 := f12.cell t5)
              | (refine step_appS T_rune (by omega) rfl (.tmp 71) (.tmp 76) rfl rfl o12 rfl ((P10.rest.drop hn2).ext (keep_rune _) f12) (fun _ _ h => h) one_rune (keep_rune bot) (bot_no _) ?_ f12.size ?_
                 · rw [HN4.out]; omega
                 intro v13 w13 o13 g13 hat13
                 have f13 := f12.app g13 o12
                 have z3 := f13.cell t3; have z5 := f13.cell t5))
          clear p3 p5 z3 z5 g12 g13 hat12 hat13 f2 o2 o12 f12 hc1
          have P13 := P10.ext f13
          have E13 := E11.trans f13
          have t6' := f13.cell t6
          have HPK : Hid (k ≤ (r.target ++ R.drop r.source.length).length) := Lib.hid (by rw [List.length_append, HN4.out]; omega)
          have HRP := Lib.hid (rest_put (r := r) (D := D) (R := R) (k := k) HPK.out)
          have hN : (r.target ++ R.drop n2).length = n4 + (nR - n2) := by rw [List.length_append, List.length_drop, HN4.out, hRL.out]
          rw [HN2.out] at HRP HPK
          generalize r.target ++ R.drop n2 = R' at *
          obtain ⟨AX, cX, rfl, sX⟩ := o13.slOwn
          have hR1 : SlR rRune 1 (fun b => (Value.slice AD D.length cD).ownBlock ≠ some b ∧ b ≠ w4.heap.size) w13 AX R'.length cX R' :=
            sX.mono (fun _ _ h => h) (fun b hb => ⟨fun e => by have h1 := (P10.done.lt _ e).2; have h2 := hb.2; omega, by have h1 := P10.wr.1; have h2 := hb.2; omega⟩)
          have P14 := P13.turn hR1
          have hcX := hR1.cap
          clear sX o13 P13 hR1
          have HR' := Lib.hid hN
          generalize hNN : R'.length = N at *
          have HNN := Lib.hid hNN; clear hNN hN
          have q0 := E13.cell k0; have q1 := E13.cell k1; have q2 := E13.cell k2; have q3 := E13.cell k3; have q4 := E13.cell k4
          have qa := (wa.ext E13).2; have qb := (wb.ext E13).2
          have hNb : N ≤ 4020 := by have := HR'.out; omega
          by_cases hbig : 4000 < (D.length : Int) + (N : Int)
          · have HO2 : Hid (runAll l t = ⟨[], 0, 0, 4⟩) := Lib.hid (by
              rw [HO.out, HP.out, play_none HLT.out (playStep_much HFI.out HI.out (by rw [HDL.out, HN2.out, HN4.out]; have := HR'.out; omega))])
            have HF2 : Hid (runF l t = (4, 0)) := Lib.hid (by rw [HRF.out, ← HO.out, HO2.out])
            have HB : decide (4000 < (D.length : Int) + (N : Int)) = true := by simpa using hbig
            clear hbig
            go_wp2
            refine bodyPost_ret (v := .tuple #[.agg #[.slice none 0 0, .int .i64 0, .int .i64 0], .agg #[.int .i64 4, .int .i64 0]]) (by simp [results, Try.results37, go_sem, q0, q1, q2, q3, q4]) rfl ?_
            exact ⟨RunR.bad HO2.out HF2.out rfl, by repeat (first | exact e1.trans E13 | refine ext_set ?_ (by omega) _ _)⟩
          · have HST := Lib.hid (playStep_put (s := s) (p := p) HFI.out HI.out (by rw [HDL.out, HN2.out, HN4.out]; have := HR'.out; omega))
            have HB : decide (4000 < (D.length : Int) + (N : Int)) = false := by simpa using hbig
            have hN4 : D.length + N ≤ 4000 := by omega
            clear hbig
            have hkN : k ≤ N := by have := HR'.out; omega
            have hs1 := fun W => run_cut_h T_rune AX N cX (k : Int) k rfl (by omega) W
            have hs2 := fun W => run_cut_l T_rune AX N cX (k : Int) k rfl hkN W
            clear q0 q1 q2 q3 q4 qa qb
            go_wp2_with (at_builtin
                         refine wpList_appS T_rune (by omega) rfl (.tmp 86) (.tmp 90) rfl rfl P14.done rfl (P14.rest.take hkN) (fun _ _ h => h) one_rune (keep_rune bot) (bot_no _) ?_ E13.size ?_
                         · omega
                         intro v15 w15 o15 g15 hat15
                         have P15 := P14.grow o15 g15 hat15
                         have E15 := E13.app g15 P14.done
                         have t6b := far_cell g15 t6' hvd)
            go_roundw
            case rel => exact ⟨D ++ R'.take k, R'.drop k, _, N - k, cX - k, q', s + 1, p + 1, rfl, rfl, P15.cut hkN, by rw [List.length_append, List.length_take, HNN.out]; omega, by omega, by omega, by
              rw [HP.out, play_next HLT.out HST.out, HRP.out, HQ.out]; simp [HNN.out, Nat.min_eq_left hkN], E15⟩
            case measure => simp [intOf]
    · have hR0 : R = [] := List.eq_nil_of_length_eq_zero (by rw [hRL.out]; omega)
      have HO2 : Hid (runAll l t = ⟨D, s, p, 0⟩) := Lib.hid (by rw [HO.out, HP.out, hR0, List.append_nil, play_end (by simp)])
      have HF2 : Hid (runF l t = (0, 0)) := Lib.hid (by rw [HRF.out, ← HO.out, HO2.out])
      clear hR0
      have hap := PD.apart
      have n1 : w.heap.size ≠ w4.heap.size := by omega
      have n2 : w.heap.size + 1 ≠ w4.heap.size := by omega
      have n3 := n1.symm; have n4 := n2.symm
      go_wp2
      refine bodyPost_ret (v := .tuple #[.agg #[.slice AD D.length cD, .int .i64 s, .int .i64 p], .agg #[.int .i64 0, .int .i64 0]]) (by simp [results, Try.results37, go_sem, v0, v1, v2, v3, v4]) rfl ?_
      have f1 : ∀ b, ((Value.slice AD D.length cD).ownBlock = some b ∧ w1.heap.size ≤ b) → b ≠ w4.heap.size := fun b hb e => hap (by rw [hb.1, e])
      have f2 : ∀ b, ((Value.slice AD D.length cD).ownBlock = some b ∧ w1.heap.size ≤ b) → b ≠ w.heap.size := fun b hb => by have := hb.2; omega
      have f3 : ∀ b, ((Value.slice AD D.length cD).ownBlock = some b ∧ w1.heap.size ≤ b) → b ≠ w.heap.size + 1 := fun b hb => by have := hb.2; omega
      exact ⟨RunR.fine HO2.out HF2.out (SlR.mono ((((((sD.far (keep_rune _) f1).far (keep_rune _) f2).far (keep_rune _) f2).far (keep_rune _) f2).far (keep_rune _) f3).far (keep_rune _) f3) (fun _ _ h => h) (fun _ _ => trivial)), ext_set (ext_set (ext_set (ext_set (ext_set (ext_set ew (by omega) _ _) (by omega) _ _) (by omega) _ _) (by omega) _ _) (by omega) _ _) (by omega) _ _⟩

theorem refRun_any (A : Option Addr) (n c : Nat) (l : List Rule) (X : Option Addr) (m d : Nat) (t : List Int) (w : World) (h : Rules w A n c l) (ht : Runes w X m d t) :
    Calls Try.prog 37 #[.slice A n c, .slice X m d] w fun e w' => RunR l t w' e ∧ Ext w w' := by
  by_cases hr : (checkRun l t).1 = 0
  · exact refRun_plays A n c l X m d t w h ht hr
  · exact refRun_bad A n c l X m d t w h ht hr

end Go.Proofs.Ytfdkbhbnldcbmaa
