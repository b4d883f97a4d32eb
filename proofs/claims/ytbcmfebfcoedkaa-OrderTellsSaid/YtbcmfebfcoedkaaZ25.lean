/- Walk: the document's Together. -/
import Derived.Test.YtbcmfebfcoedkaaZ24
namespace Go.Proofs.Ytbcmfebfcoedkaa
open Go.RowKit
set_option linter.unusedVariables false
set_option linter.unusedSimpArgs false

/-- where the outer loop may stand -/
def TInv (V : List Int) (i : Nat) : Prop := (tgo (V.take i)).hd = none ∨ i = V.length ∨ clsOf (V.getD i 0) = 0
theorem tpush_hd {s : Tg} {r : Int} (h : ¬ clsOf r = 0) : (tpush s r).hd = s.hd := by unfold tpush; rw [if_neg h]

set_option maxRecDepth 1000000 in
set_option maxHeartbeats 16000000 in
theorem refTogether_any (A : Option Addr) (n c : Nat) (l : List Int) (w : World) (h : Runes w A n c l) :
    Calls Try.prog 13 #[.slice A n c] w fun e w' => TextR w (apartE l) (togV l) e w' := by
  have C1 := Lib.hid (refApart_any A n c l w h)
  have HLN := Lib.hid (apart_len l)
  clear h
  by_cases he : apartE l = 0
  · have HE := Lib.hid he
    rw [he] at C1
    have HB := Lib.hid (show togV l = (tgo (apartV l)).flat from rfl)
    have CL := Lib.hid (fun r W => refClass_any r W)
    have CJ := Lib.hid (fun a b W => Joined_any a b W)
    clear he
    generalize apartV l = V at *
    go_enter Try.func13, Try.ntmps13
    go_wp2_with (go_at_call 10; ((with_reducible refine C1.out.mono ?_); rintro e w1 ⟨⟨v, rfl, o1⟩, x1⟩; obtain ⟨AV, cV, rfl, s1⟩ := o1.top; have S1 := Lib.hid s1; have X1 := Lib.hid x1; clear o1 x1 s1))
    have hcap := S1.out.cap
    have hm := S1.out.max; unfold maxLen at hm
    obtain ⟨N, hN⟩ : ∃ N, V.length = N := ⟨_, rfl⟩
    rw [hN] at S1 hcap ⊢
    have HN := Lib.hid hN
    clear hN C1
    go_loopw [6, 7] (fun vo vi wr => ∃ (i : Nat) (v : Value), v = vo ∧ vi = .int .i64 i ∧ i ≤ N ∧ Hid (OwnR rRune 21 1 w1.heap.size wr v (tgo (V.take i)).flat) ∧ Hid (Ext w1 wr) ∧ Hid (0 ≤ (tgo (V.take i)).last) ∧ Hid (TInv V i)) (fun _ vi _ => N - (intOf vi).toNat)
    case atStart => exact ⟨0, _, rfl, rfl, by omega, Lib.hid (OwnR.nil _ _ _ _ _), Lib.hid (Ext.refl _), Lib.hid (by show (0 : Int) ≤ 0; omega), Lib.hid (.inl rfl)⟩
    case round =>
      obtain ⟨i, v, rfl, rfl, hi, HO, HX, HLA, HIN⟩ := hrel
      by_cases hlt : i < N
      · have gz : (i : Int) < (N : Int) := by omega
        have hR := Runes.ext S1.out HX.out
        obtain ⟨x, hxx⟩ := hR.idx hlt
        obtain ⟨b', off', rfl, hbb, hc, hi1, hi2⟩ := hR.rune hxx
        have hxd : V.getD i 0 = x := by rw [List.getD_eq_getElem?_getD, hxx]; rfl
        have HS0 := Lib.hid (tgo_snoc hxx)
        have HI := Lib.hid (show i32 x from ⟨hi1, hi2⟩)
        have CX := Lib.hid (fun W => CL.out x W)
        have HFL := Lib.hid (show (tgo (V.take i)).flat.length ≤ 4000 from by
          have h1 := tgo_len (V.take i)
          have h2 : (V.take i).length ≤ V.length := (by rw [List.length_take]; omega)
          have := HLN.out; omega)
        clear hR hxx
        obtain ⟨cx, hcx⟩ : ∃ q, clsOf x = q := ⟨_, rfl⟩
        have HCX := Lib.hid hcx
        have hcx0 : 0 ≤ cx := by rw [← hcx]; exact (clsOf_nn x).1
        rw [hcx] at CX
        have HIN2 := Lib.hid (show (tgo (V.take i)).hd = none ∨ cx = 0 from by
          rcases HIN.out with h | h | h
          · exact .inl h
          · have := HN.out; omega
          · rw [hxd, hcx] at h; exact .inr h)
        clear hcx hxd HIN
        have w1' : IntKind.i64.wrap ((i : Int) + 1) = (i : Int) + 1 := IntWalk.i64_in _ (by omega)
        by_cases h0 : 0 < cx
        · have gl : decide (0 < cx) = true := decide_eq_true h0
          have hnone : (tgo (V.take i)).hd = none := by rcases HIN2.out with h | h; exact h; omega
          have HST := Lib.hid (show tgo (V.take (i + 1)) = tpush (tgo (V.take i)) x by rw [HS0.out, tstep_none hnone])
          have HHN := Lib.hid (show TInv V (i + 1) from .inl (by rw [HST.out, tpush_hd (by rw [HCX.out]; omega)]; exact hnone))
          have HLX := Lib.hid (show 0 ≤ (tgo (V.take (i + 1))).last by rw [HST.out, tpush_last, HCX.out]; exact hcx0)
          have e5 := (Ext.refl wr).alloc (.cells #[.int .i32 x] 21)
          have O5 := Lib.hid (HO.out.ext (keep_rune top) e5)
          have X5 := Lib.hid (HX.out.trans e5)
          have S5 := Lib.hid (one_newR wr x 21 HI.out)
          clear e5 hnone
          go_wp2_with (first
            | (go_at_call 8; ((with_reducible refine (CX.out _).mono ?_); rintro e w' ⟨rfl, rfl⟩))
            | (refine wpList_appS T_rune (by omega) rfl (.tmp 33) (.tmp 35) rfl rfl O5.out rfl S5.out (fun _ _ h => h) one_rune (keep_rune bot) (bot_no _) (by have := HFL.out; omega) X5.out.size ?_; intro v6 w6 o6 g6 hat6; have X6 := Lib.hid (X5.out.app g6 O5.out); rw [← tpush_flat, ← HST.out] at o6; have O6 := Lib.hid o6; clear o6 g6 hat6))
          go_roundw
          case rel => exact ⟨i + 1, v6, rfl, by go_num, by omega, O6, X6, HLX, HHN⟩
          case measure => simp [intOf]; omega
        · have gl : decide (0 < cx) = false := decide_eq_false h0
          have hz : cx = 0 := by omega
          have HST := Lib.hid (show tgo (V.take (i + 1)) = ⟨(tgo (V.take i)).flat, some x, [], 0⟩ by
            have : tstep (tgo (V.take i)) x = tpush (tgo (V.take i)) x := by
              cases hh : (tgo (V.take i)).hd with
              | none => exact tstep_none hh
              | some q => exact tstep_no hh (by rw [HCX.out, hz]; have := HLA.out; omega)
            rw [HS0.out, this]; unfold tpush; rw [if_pos (by rw [HCX.out, hz])])
          have OUT0 := HO
          generalize (tgo (V.take i)).flat = F at *
          clear hz HLA HIN2
          go_wp2_with (go_at_call 8; ((with_reducible refine (CX.out _).mono ?_); rintro e w' ⟨rfl, rfl⟩))
          have XI := HX
          have OUT := OUT0
          have LO0 := Lib.hid (OwnR.nil rRune 21 1 wr.heap.size wr)
          clear HO HX OUT0 hc hbb
          generalize wr = wI at *
          go_loopw [7, 8, 9, 10] (fun vi vh vl vg w4 => ∃ (j : Nat) (hq : Int) (lv : Value) (left : List Int) (hi : Int), vi = .int .i64 j ∧ vh = .int .i32 hq ∧ lv = vl ∧ vg = .int .i64 hi ∧ i + 1 ≤ j ∧ j ≤ N ∧ Hid (tgo (V.take j) = ⟨F, some hq, left, hi⟩) ∧ Hid (OwnR rRune 21 1 wI.heap.size w4 lv left) ∧ Hid (i32 hq) ∧ 0 ≤ hi ∧ Hid (Ext wI w4)) (fun vi _ _ _ _ => N - (intOf vi).toNat)
          case atStart => exact ⟨i + 1, x, _, [], 0, by go_num, rfl, rfl, rfl, by omega, by omega, HST, LO0, HI, by omega, Lib.hid (Ext.refl _)⟩
          case round =>
            clear LO0 HST
            obtain ⟨j, hq, lv, left, hi, rfl, rfl, rfl, rfl, hij, hjN, HT, LO, HQI, hhi, HXI⟩ := hrel
            by_cases hjl : j < N
            · have gj : (j : Int) < (N : Int) := by omega
              have gj' : decide ((j : Int) < (N : Int)) = true := decide_eq_true gj
              have hR : Runes wr (some ⟨b', off', none⟩) N cV V := Runes.ext S1.out (XI.out.trans HXI.out)
              obtain ⟨y, hyy⟩ := hR.idx hjl
              have hc' := hR.cellAt hyy
              have ⟨hy1, hy2⟩ : -2147483648 ≤ y ∧ y ≤ 2147483647 := (Runes.i32 hR y (List.mem_of_getElem? hyy))
              have hyd : V.getD j 0 = y := by rw [List.getD_eq_getElem?_getD, hyy]; rfl
              have HYV := Lib.hid hyy
              have HS := Lib.hid (tgo_snoc hyy)
              have HYI := Lib.hid (show i32 y from ⟨hy1, hy2⟩)
              have CY := Lib.hid (fun W => CL.out y W)
              obtain ⟨cy, hcy⟩ : ∃ q, clsOf y = q := ⟨_, rfl⟩
              have HCY := Lib.hid hcy
              have hcy0 : 0 ≤ cy := by rw [← hcy]; exact (clsOf_nn y).1
              rw [hcy] at CY
              have hbb2 : b' < wr.heap.size ∧ b' ≠ wr.heap.size := by have := World.block_lt_of_cell? wr _ hc'; have h2 : b' < wr.heap.size := this; omega
              obtain ⟨bb1, bb2⟩ := hbb2
              have wj : IntKind.i64.wrap ((j : Int) + 1) = (j : Int) + 1 := IntWalk.i64_in _ (by omega)
              clear hR hyy
              by_cases hm0 : 0 < cy
              · have gm : decide (0 < cy) = true := decide_eq_true hm0
                have CJ2 := Lib.hid (fun W => CJ.out hq y W)
                clear hcy hyd
                cases hf : fj hq y with
                | some p =>
                  have hpm := fj_mem hf
                  have HPI := Lib.hid (pairs_i32 hpm.1).2.2
                  have hnn := pairs_nn hpm.1
                  have ej : joinI hq y = p.whole := by unfold joinI; rw [hf]
                  rw [ej] at CJ2
                  obtain ⟨pw, hpw⟩ : ∃ q, p.whole = q := ⟨_, rfl⟩
                  have HPW := Lib.hid hpw
                  rw [hpw] at CJ2 HPI hnn
                  have gw : decide (0 ≤ pw) = true := decide_eq_true hnn
                  by_cases hlc : hi < cy
                  · have gl2 : decide (hi < cy) = true := decide_eq_true hlc
                    have HT2 := Lib.hid (show tgo (V.take (j + 1)) = ⟨F, some pw, left, hi⟩ by
                      rw [HS.out, tstep_join (s := tgo (V.take j)) (h := hq) (p := p) (by rw [HT.out]) (by rw [HT.out, HCY.out]; exact hlc) hf, HT.out, HPW.out])
                    clear hf hpm ej hpw
                    go_wp2_with (first
                      | (go_at_call 8; ((with_reducible refine (CY.out _).mono ?_); rintro e w' ⟨rfl, rfl⟩))
                      | (go_at_call 31; ((with_reducible refine (CJ2.out _).mono ?_); rintro e w5 ⟨rfl, x5⟩; have X5J := Lib.hid x5; have hc5 := Ext.cell x5 hc'; have bb5 : b' < w5.heap.size := Nat.lt_of_lt_of_le bb1 x5.size; have bb6 : b' ≠ w5.heap.size := Nat.ne_of_lt bb5; clear x5)))
                    go_roundw
                    case rel => exact ⟨j + 1, pw, lv, left, hi, by go_num, rfl, rfl, rfl, by omega, by omega, HT2, Lib.hid (LO.out.ext (keep_rune top) X5J.out), HPI, hhi, Lib.hid (HXI.out.trans X5J.out)⟩
                    case measure => simp [intOf]; omega
                  · have gl2 : decide (hi < cy) = false := decide_eq_false hlc
                    have HSTEP := Lib.hid (show tstep (tgo (V.take j)) y = tpush (tgo (V.take j)) y from tstep_no (h := hq) (by rw [HT.out]) (by rw [HT.out, HCY.out]; exact hlc))
                    clear hf hpm ej hpw
                    go_upto_region 17 with (first
                      | (go_at_call 8; ((with_reducible refine (CY.out _).mono ?_); rintro e w' ⟨rfl, rfl⟩))
                      | (go_at_call 31; ((with_reducible refine (CJ2.out _).mono ?_); rintro e w5 ⟨rfl, x5⟩; have X5J := Lib.hid x5; have hc5 := Ext.cell x5 hc'; have bb5 : b' < w5.heap.size := Nat.lt_of_lt_of_le bb1 x5.size; have bb6 : b' ≠ w5.heap.size := Nat.ne_of_lt bb5; clear x5)))
                    have HT2 := Lib.hid (show tgo (V.take (j + 1)) = ⟨F, some hq, left ++ [y], cy⟩ by rw [HS.out, HSTEP.out]; unfold tpush; rw [if_neg (by rw [HCY.out]; omega), HT.out, HCY.out])
                    have e5 := (Ext.refl w5).alloc (.cells #[.int .i32 y] 21)
                    have O5 := Lib.hid ((LO.out.ext (keep_rune top) X5J.out).ext (keep_rune top) e5)
                    have X5 := Lib.hid ((HXI.out.trans X5J.out).trans e5)
                    have S5 := Lib.hid (one_newR w5 y 21 HYI.out)
                    have HLL := Lib.hid (show left.length ≤ 4000 from by
                      have h1 := tgo_len (V.take j)
                      have h2 : (V.take j).length ≤ V.length := (by rw [List.length_take]; omega)
                      rw [HT.out] at h1
                      have := HLN.out
                      simp [Tg.flat] at h1; omega)
                    have hcy2 : 0 ≤ cy := by omega
                    have KY := Lib.hid (fun W (e : Ext w5 W) => Ext.cell e (X5J.out.cell hc'))
                    clear e5
                    go_wp2_with (first
                      | (go_at_call 8; ((with_reducible refine (CY.out _).mono ?_); rintro e w' ⟨rfl, rfl⟩))
                      | (refine wpList_appS T_rune (by omega) rfl (.tmp 67) (.tmp 72) rfl rfl O5.out rfl S5.out (fun _ _ h => h) one_rune (keep_rune bot) (bot_no _) (by have := HLL.out; omega) X5.out.size ?_; intro v6 w6 o6 g6 hat6; have X6 := Lib.hid (X5.out.app g6 O5.out); have O6 := Lib.hid o6; have cy6 : w6.cell? ⟨b', off' + j, none⟩ = some (.int .i32 y) := (Runes.ext S1.out (XI.out.trans X6.out)).cellAt HYV.out; clear o6 g6 hat6))
                    go_roundw
                    case rel => exact ⟨j + 1, hq, v6, left ++ [y], cy, by go_num, rfl, rfl, rfl, by omega, by omega, HT2, O6, HQI, hcy2, X6⟩
                    case measure => simp [intOf]; omega
                | none =>
                  have ej : joinI hq y = -1 := by unfold joinI; rw [hf]
                  rw [ej] at CJ2
                  have gw : decide ((0 : Int) ≤ -1) = false := by decide
                  have HSTEP := Lib.hid (show tstep (tgo (V.take j)) y = tpush (tgo (V.take j)) y from by
                    by_cases hlc : hi < cy
                    · exact tstep_out (h := hq) (by rw [HT.out]) (by rw [HT.out, HCY.out]; exact hlc) hf
                    · exact tstep_no (h := hq) (by rw [HT.out]) (by rw [HT.out, HCY.out]; exact hlc))
                  clear hf ej
                  go_upto_region 17 with (first
                    | (go_at_call 8; ((with_reducible refine (CY.out _).mono ?_); rintro e w' ⟨rfl, rfl⟩))
                    | (go_at_call 31; ((with_reducible refine (CJ2.out _).mono ?_); rintro e w5 ⟨rfl, x5⟩; have X5J := Lib.hid x5; have hc5 := Ext.cell x5 hc'; have bb5 : b' < w5.heap.size := Nat.lt_of_lt_of_le bb1 x5.size; have bb6 : b' ≠ w5.heap.size := Nat.ne_of_lt bb5; clear x5)))
                  have HT2 := Lib.hid (show tgo (V.take (j + 1)) = ⟨F, some hq, left ++ [y], cy⟩ by rw [HS.out, HSTEP.out]; unfold tpush; rw [if_neg (by rw [HCY.out]; omega), HT.out, HCY.out])
                  have e5 := (Ext.refl w5).alloc (.cells #[.int .i32 y] 21)
                  have O5 := Lib.hid ((LO.out.ext (keep_rune top) X5J.out).ext (keep_rune top) e5)
                  have X5 := Lib.hid ((HXI.out.trans X5J.out).trans e5)
                  have S5 := Lib.hid (one_newR w5 y 21 HYI.out)
                  have HLL := Lib.hid (show left.length ≤ 4000 from by
                    have h1 := tgo_len (V.take j)
                    have h2 : (V.take j).length ≤ V.length := (by rw [List.length_take]; omega)
                    rw [HT.out] at h1
                    have := HLN.out
                    simp [Tg.flat] at h1; omega)
                  have hcy2 : 0 ≤ cy := by omega
                  have KY := Lib.hid (fun W (e : Ext w5 W) => Ext.cell e (X5J.out.cell hc'))
                  clear e5
                  go_wp2_with (first
                    | (go_at_call 8; ((with_reducible refine (CY.out _).mono ?_); rintro e w' ⟨rfl, rfl⟩))
                    | (refine wpList_appS T_rune (by omega) rfl (.tmp 67) (.tmp 72) rfl rfl O5.out rfl S5.out (fun _ _ h => h) one_rune (keep_rune bot) (bot_no _) (by have := HLL.out; omega) X5.out.size ?_; intro v6 w6 o6 g6 hat6; have X6 := Lib.hid (X5.out.app g6 O5.out); have O6 := Lib.hid o6; have cy6 : w6.cell? ⟨b', off' + j, none⟩ = some (.int .i32 y) := (Runes.ext S1.out (XI.out.trans X6.out)).cellAt HYV.out; clear o6 g6 hat6))
                  go_roundw
                  case rel => exact ⟨j + 1, hq, v6, left ++ [y], cy, by go_num, rfl, rfl, rfl, by omega, by omega, HT2, O6, HQI, hcy2, X6⟩
                  case measure => simp [intOf]; omega
              · have gm : decide (0 < cy) = false := decide_eq_false hm0
                have HEX := Lib.hid (show TInv V j from .inr (.inr (by rw [hyd, hcy]; omega)))
                clear hcy hyd
                have HFJ := Lib.hid (show (tgo (V.take j)).flat = (F ++ [hq]) ++ left by rw [HT.out]; simp [Tg.flat])
                have HLJ := Lib.hid (show 0 ≤ (tgo (V.take j)).last by rw [HT.out]; exact hhi)
                have e5 := (Ext.refl wr).alloc (.cells #[.int .i32 hq] 21)
                have O5 := Lib.hid ((OUT.out.ext (keep_rune top) HXI.out).ext (keep_rune top) e5)
                have X5 := Lib.hid ((XI.out.trans HXI.out).trans e5)
                have S5 := Lib.hid (one_newR wr hq 21 HQI.out)
                have L5 := Lib.hid (LO.out.ext (keep_rune top) e5)
                have HLF := Lib.hid (show F.length + 1 + left.length ≤ 4001 from by
                  have h1 := tgo_len (V.take j)
                  have h2 : (V.take j).length ≤ V.length := (by rw [List.length_take]; omega)
                  rw [HFJ.out] at h1
                  have := HLN.out
                  simp only [List.length_append, List.length_singleton] at h1; omega)
                have HVB := Lib.hid (fun gq hgq => (OUT.out.lt gq hgq).2)
                obtain ⟨AL, cL, hlv, sL⟩ := L5.out.sl
                have SL := Lib.hid sL
                subst hlv
                clear e5 sL LO hhi HT
                go_wp2_with (first
                  | (go_at_call 8; ((with_reducible refine (CY.out _).mono ?_); rintro e w' ⟨rfl, rfl⟩))
                  | (refine wpList_appS T_rune (by omega) rfl (.tmp 81) (.tmp 83) rfl rfl O5.out rfl S5.out (fun _ _ h => h) one_rune (keep_rune bot) (bot_no _) (by have := HLF.out; omega) X5.out.size ?_; intro v6 w6 o6 g6 hat6; have X6 := Lib.hid (X5.out.app g6 O5.out); have SL6 := Lib.hid (SL.out.keep (keep_rune _) (grown_agree g6 (fun g hg h => by have h1 := HVB.out g hg; have h2 : wI.heap.size ≤ g := h; omega))); have O6 := Lib.hid o6; clear o6 g6 hat6)
                  | (refine wpList_appS T_rune (by omega) rfl (.tmp 84) (.tmp 85) rfl rfl O6.out rfl SL6.out (fun _ _ h => h) one_rune (keep_rune bot) (bot_no _) (by have := HLF.out; simp only [List.length_append, List.length_singleton]; omega) X6.out.size ?_; intro v7 w7 o7 g7 hat7; have X7 := Lib.hid (X6.out.app g7 O6.out); rw [← HFJ.out] at o7; have O7 := Lib.hid o7; clear o7 g7 hat7))
                go_roundw
                case rel => exact ⟨j, v7, rfl, rfl, by omega, O7, X7, HLJ, HEX⟩
                case measure => simp [intOf]; omega
            · have gj : ¬ (j : Int) < (N : Int) := by omega
              have gj' : decide ((j : Int) < (N : Int)) = false := decide_eq_false gj
              have HEX := Lib.hid (show TInv V j from .inr (.inl (by rw [HN.out]; omega)))
              have HFJ := Lib.hid (show (tgo (V.take j)).flat = (F ++ [hq]) ++ left by rw [HT.out]; simp [Tg.flat])
              have HLJ := Lib.hid (show 0 ≤ (tgo (V.take j)).last by rw [HT.out]; exact hhi)
              have e5 := (Ext.refl wr).alloc (.cells #[.int .i32 hq] 21)
              have O5 := Lib.hid ((OUT.out.ext (keep_rune top) HXI.out).ext (keep_rune top) e5)
              have X5 := Lib.hid ((XI.out.trans HXI.out).trans e5)
              have S5 := Lib.hid (one_newR wr hq 21 HQI.out)
              have L5 := Lib.hid (LO.out.ext (keep_rune top) e5)
              have HLF := Lib.hid (show F.length + 1 + left.length ≤ 4001 from by
                have h1 := tgo_len (V.take j)
                have h2 : (V.take j).length ≤ V.length := (by rw [List.length_take]; omega)
                rw [HFJ.out] at h1
                have := HLN.out
                simp only [List.length_append, List.length_singleton] at h1; omega)
              have HVB := Lib.hid (fun gq hgq => (OUT.out.lt gq hgq).2)
              obtain ⟨AL, cL, hlv, sL⟩ := L5.out.sl
              have SL := Lib.hid sL
              subst hlv
              clear e5 sL LO hhi HT
              go_wp2_with (first
                | (refine wpList_appS T_rune (by omega) rfl (.tmp 81) (.tmp 83) rfl rfl O5.out rfl S5.out (fun _ _ h => h) one_rune (keep_rune bot) (bot_no _) (by have := HLF.out; omega) X5.out.size ?_; intro v6 w6 o6 g6 hat6; have X6 := Lib.hid (X5.out.app g6 O5.out); have SL6 := Lib.hid (SL.out.keep (keep_rune _) (grown_agree g6 (fun g hg h => by have h1 := HVB.out g hg; have h2 : wI.heap.size ≤ g := h; omega))); have O6 := Lib.hid o6; clear o6 g6 hat6)
                | (refine wpList_appS T_rune (by omega) rfl (.tmp 84) (.tmp 85) rfl rfl O6.out rfl SL6.out (fun _ _ h => h) one_rune (keep_rune bot) (bot_no _) (by have := HLF.out; simp only [List.length_append, List.length_singleton]; omega) X6.out.size ?_; intro v7 w7 o7 g7 hat7; have X7 := Lib.hid (X6.out.app g7 O6.out); rw [← HFJ.out] at o7; have O7 := Lib.hid o7; clear o7 g7 hat7))
              go_roundw
              case rel => exact ⟨j, v7, rfl, rfl, by omega, O7, X7, HLJ, HEX⟩
              case measure => simp [intOf]; omega
      · have gz : ¬ (i : Int) < (N : Int) := by omega
        have hO := HO.out
        rw [List.take_of_length_le (by rw [HN.out]; omega), ← HB.out] at hO
        have O9 := Lib.hid (hO.mono (base' := w.heap.size) X1.out.size)
        clear hO HO
        go_wp2
        go_ret2
        rw [HE.out]
        exact ⟨⟨_, rfl, O9.out⟩, X1.out.trans HX.out⟩
  · have HB := Lib.hid (show togV l = [] by unfold togV; rw [apart_nil he]; rfl)
    rw [HB.out]
    have hn : (apartE l != 0) = true := by simpa using he
    clear he HLN HB
    generalize apartE l = er at *
    go_enter Try.func13, Try.ntmps13
    go_wp2_with (go_at_call 10; ((with_reducible refine C1.out.mono ?_); rintro e w1 ⟨⟨v, rfl, o1⟩, x1⟩))
    go_ret2
    exact ⟨⟨_, rfl, OwnR.nil _ _ _ _ _⟩, x1⟩

end Go.Proofs.Ytbcmfebfcoedkaa
