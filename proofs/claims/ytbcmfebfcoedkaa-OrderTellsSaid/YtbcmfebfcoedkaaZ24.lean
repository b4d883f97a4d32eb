/- Walk: norm.Together. -/
import Derived.Test.YtbcmfebfcoedkaaZ23
namespace Go.Proofs.Ytbcmfebfcoedkaa
open Go.RowKit
set_option linter.unusedVariables false
set_option linter.unusedSimpArgs false

set_option maxRecDepth 1000000 in
set_option maxHeartbeats 16000000 in
theorem Together_any (A : Option Addr) (n c : Nat) (l : List Int) (w : World) (h : Runes w A n c l) :
    Calls Try.prog 12 #[.slice A n c] w fun e w' => TextR w (apartE l) (togV l) e w' := by
  have C1 := Lib.hid (Apart_any A n c l w h)
  have HLN := Lib.hid (apart_len l)
  clear h
  by_cases he : apartE l = 0
  · have HE := Lib.hid he
    rw [he] at C1
    have HB := Lib.hid (show togV l = (tgo (apartV l)).flat from rfl)
    have CL := Lib.hid (fun r W => Class_any r W)
    clear he
    generalize apartV l = V at *
    go_enter Try.func12, Try.ntmps12
    go_wp2_with (first
      | (go_at_call 9; ((with_reducible refine C1.out.mono ?_); rintro e w1 ⟨⟨v, rfl, o1⟩, x1⟩; obtain ⟨AV, cV, rfl, s1⟩ := o1.top; have S1 := Lib.hid s1; have X1 := Lib.hid x1; have C2 := Lib.hid (made_any w1); clear o1 x1 s1))
      | (go_at_call 26; ((with_reducible refine C2.out.mono ?_); rintro e w2 ⟨b1, b2, rfl, m1, m2, x2⟩; have X2 := Lib.hid x2; have M2 := Lib.hid m2; clear m1 m2 x2)))
    have e3 := (Ext.refl w2).alloc (.cells #[.map (some b1), .map (some b2)] 57)
    have c1 : (w2.alloc (.cells #[.map (some b1), .map (some b2)] 57)).cell? ⟨w2.heap.size, 1, none⟩ = some (.map (some b2)) := cell_new _ _ _ _ _ rfl
    have sz : (w2.alloc (.cells #[.map (some b1), .map (some b2)] 57)).heap.size = w2.heap.size + 1 := by simp
    have X3 := Lib.hid ((X1.out.trans X2.out).trans e3)
    have Y3 := Lib.hid (X2.out.trans e3)
    have M3 := Lib.hid (M2.out.ext e3)
    generalize w2.alloc (.cells #[.map (some b1), .map (some b2)] 57) = w3 at *
    have S3 := Lib.hid (Runes.ext S1.out Y3.out)
    have KC := Lib.hid (fun W (e : Ext w3 W) => show W.cell? ⟨w2.heap.size, 1, none⟩ = some (.map (some b2)) from e.cell c1)
    have SZ := Lib.hid sz
    have hcap := S3.out.cap
    have hm := S3.out.max; unfold maxLen at hm
    obtain ⟨N, hN⟩ : ∃ N, V.length = N := ⟨_, rfl⟩
    rw [hN] at S3 hcap ⊢
    have HN := Lib.hid hN
    clear hN C1 C2 M2 X2 X1 Y3 e3 c1 sz S1
    go_loopw [7, 8, 9, 26] (fun vo vb vl vi wr => ∃ (k : Nat) (v : Value), v = vo ∧ vi = .int .i64 k ∧ k ≤ N ∧ vb = .int .i64 (tgo (V.take k)).baseI ∧ vl = .int .i64 (tgo (V.take k)).last ∧ Hid (OwnR rRune 21 1 w3.heap.size wr v (tgo (V.take k)).flat) ∧ Hid (Ext w3 wr)) (fun _ _ _ vi _ => N - (intOf vi).toNat)
    case atStart => exact ⟨0, _, rfl, rfl, by omega, rfl, rfl, Lib.hid (OwnR.nil _ _ _ _ _), Lib.hid (Ext.refl _)⟩
    case round =>
      obtain ⟨k, v, rfl, rfl, hk, rfl, rfl, HO, HX⟩ := hrel
      by_cases hlt : k < N
      · have gz : (k : Int) < (N : Int) := by omega
        have hR := Runes.ext S3.out HX.out
        obtain ⟨x, hxx⟩ := hR.idx hlt
        obtain ⟨b, off, rfl, hbb, hc, hi1, hi2⟩ := hR.rune hxx
        have HS := Lib.hid (tgo_snoc hxx)
        have HI := Lib.hid (show i32 x from ⟨hi1, hi2⟩)
        have CX := Lib.hid (fun W => CL.out x W)
        have HFL := Lib.hid (show (tgo (V.take k)).flat.length ≤ 4000 from by
          have h1 := tgo_len (V.take k)
          have h2 : (V.take k).length ≤ V.length := (by rw [List.length_take]; omega)
          have := HLN.out; omega)
        clear hR hxx
        obtain ⟨cx, hcx⟩ : ∃ q, clsOf x = q := ⟨_, rfl⟩
        have HCX := Lib.hid hcx
        rw [hcx] at CX
        clear hcx
        generalize tgo (V.take k) = s at *
        have e5 := (Ext.refl wr).alloc (.cells #[.int .i32 x] 21)
        have O5 := Lib.hid (HO.out.ext (keep_rune top) e5)
        have X5 := Lib.hid (HX.out.trans e5)
        have S5 := Lib.hid (one_newR wr x 21 HI.out)
        clear e5
        cases hh : s.hd with
        | none =>
          have HST := Lib.hid (show tgo (V.take (k + 1)) = tpush s x by rw [HS.out, tstep_none hh])
          have hb : s.baseI = -1 := base_none hh
          have HBN := Lib.hid hb
          rw [hb]
          clear hh hb
          obtain ⟨L, hL⟩ : ∃ L, s.last = L := ⟨_, rfl⟩
          rw [hL]
          clear hL
          by_cases h0 : cx = 0
          · have hz : (cx == 0) = true := by simp [h0]
            have HBX := Lib.hid (show (tgo (V.take (k + 1))).baseI = (s.flat.length : Int) by rw [HST.out]; exact tpush_base0 (by rw [HCX.out]; exact h0))
            have HLX := Lib.hid (show (tgo (V.take (k + 1))).last = cx by rw [HST.out, tpush_last, HCX.out])
            obtain ⟨A', c', hv', _⟩ := HO.out.top
            rw [hv'] at O5 ⊢
            obtain ⟨FN, hFN⟩ : ∃ q, s.flat.length = q := ⟨_, rfl⟩
            rw [hFN] at O5 HBX ⊢
            clear hFN hv'
            go_wp2_with (first
              | (go_at_call 7; ((with_reducible refine (CX.out _).mono ?_); rintro e w' ⟨rfl, rfl⟩))
              | (refine wpList_appS T_rune (by omega) rfl (.tmp 61) (.tmp 63) rfl rfl O5.out rfl S5.out (fun _ _ h => h) one_rune (keep_rune bot) (bot_no _) (by have := HFL.out; omega) X5.out.size ?_; intro v6 w6 o6 g6 hat6; have X6 := Lib.hid (X5.out.app g6 O5.out); rw [← tpush_flat, ← HST.out] at o6; have O6 := Lib.hid o6; clear o6 g6 hat6))
            go_roundw
            case rel => exact ⟨k + 1, v6, rfl, by go_num, by omega, by rw [HBX.out], by rw [HLX.out]; rw [h0], O6, X6⟩
            case measure => simp [intOf]; omega
          · have hz : (cx == 0) = false := by simp [h0]
            have HBX := Lib.hid (show (tgo (V.take (k + 1))).baseI = -1 by rw [HST.out, ← HBN.out]; exact tpush_base1 (by rw [HCX.out]; exact h0))
            have HLX := Lib.hid (show (tgo (V.take (k + 1))).last = cx by rw [HST.out, tpush_last, HCX.out])
            go_wp2_with (first
              | (go_at_call 7; ((with_reducible refine (CX.out _).mono ?_); rintro e w' ⟨rfl, rfl⟩))
              | (refine wpList_appS T_rune (by omega) rfl (.tmp 61) (.tmp 63) rfl rfl O5.out rfl S5.out (fun _ _ h => h) one_rune (keep_rune bot) (bot_no _) (by have := HFL.out; omega) X5.out.size ?_; intro v6 w6 o6 g6 hat6; have X6 := Lib.hid (X5.out.app g6 O5.out); rw [← tpush_flat, ← HST.out] at o6; have O6 := Lib.hid o6; clear o6 g6 hat6))
            go_roundw
            case rel => exact ⟨k + 1, v6, rfl, by go_num, by omega, by rw [HBX.out], by rw [HLX.out], O6, X6⟩
            case measure => simp [intOf]; omega
        | some hq =>
          have HBS := Lib.hid (base_some hh)
          have HFS := Lib.hid (flat_some hh)
          have HH := Lib.hid hh
          obtain ⟨pl, hpl⟩ : ∃ q, s.pre.length = q := ⟨_, rfl⟩
          have HPL := Lib.hid hpl
          have hbs := base_some hh
          rw [hpl] at hbs
          rw [hbs]
          obtain ⟨L, hL⟩ : ∃ L, s.last = L := ⟨_, rfl⟩
          have HLA := Lib.hid hL
          rw [hL]
          clear hL hbs hpl hh
          have gb : (0 : Int) ≤ (pl : Int) := by omega
          have gb' : decide ((0 : Int) ≤ (pl : Int)) = true := decide_eq_true gb
          by_cases hlc : L < cx
          · have gl : decide (L < cx) = true := decide_eq_true hlc
            have hO := HO.out
            obtain ⟨AO, cO, hve, sO⟩ := hO.top
            have hplN : pl < s.flat.length := by rw [HFS.out, ← HPL.out]; simp
            have hgq : s.flat[pl]? = some hq := by rw [HFS.out, ← HPL.out]; simp
            obtain ⟨g, og, rfl, hbg, hcg, hg1, hg2⟩ := sO.rune hgq
            have hok : og = 0 ∧ ∀ xx, i32 xx → OwnR rRune 21 1 w3.heap.size (wr.setCell ⟨g, pl, none⟩ (.int .i32 xx)) v (s.flat.set pl xx) ∧ wr.frozen? ⟨g, pl, none⟩ = false ∧ w3.heap.size ≤ g := by
              rcases own_holds hO with ⟨hn, hv0⟩ | ⟨g', cap', hv0, _⟩
              · rw [hve] at hv0; cases hv0
              · rw [hve] at hv0
                injection hv0 with e1 e2 e3
                injection e1 with e1
                injection e1 with e1 e4
                subst e4
                refine ⟨rfl, fun xx hxx => ?_⟩
                rw [hve] at hO ⊢
                exact own_set hO hplN hxx
            obtain ⟨hog, hset⟩ := hok
            subst hog
            rw [Nat.zero_add] at hcg
            have hMT := fun q => (M3.out.ext HX.out).ext ((Ext.refl wr).drewN q)
            have hkc := KC.out wr HX.out
            have bl : w2.heap.size < wr.heap.size ∧ w2.heap.size ≠ wr.heap.size := by have := HX.out.size; have := SZ.out; omega
            obtain ⟨bl1, bl2⟩ := bl
            obtain ⟨FN, hFN⟩ : ∃ q, s.flat.length = q := ⟨_, rfl⟩
            have HFN := Lib.hid hFN
            rw [hFN] at hve hplN
            have gpl : (pl : Int) < (FN : Int) := by omega
            have hve2 := Lib.hid hve
            clear sO hgq hO hFN
            cases hf : fj hq x with
            | some p =>
              have LK := fun q => look2_some (hMT q) ⟨hg1, hg2⟩ HI.out hf
              have HPI := Lib.hid (pairs_i32 (fj_mem hf).1).2.2
              have HST := Lib.hid (show tgo (V.take (k + 1)) = ⟨s.pre, some p.whole, s.left, s.last⟩ by rw [HS.out, tstep_join HH.out (by rw [HLA.out, HCX.out]; exact hlc) hf])
              have HFJ := Lib.hid (show (tgo (V.take (k + 1))).flat = s.flat.set pl p.whole by rw [HST.out, flat_join HH.out, HPL.out])
              have HBJ := Lib.hid (show (tgo (V.take (k + 1))).baseI = (pl : Int) by rw [HST.out, ← HPL.out]; rfl)
              have HLJ := Lib.hid (show (tgo (V.take (k + 1))).last = L by rw [HST.out]; exact HLA.out)
              obtain ⟨pw, hpw⟩ : ∃ q, p.whole = q := ⟨_, rfl⟩
              rw [hpw] at LK HPI HFJ
              clear hf hpw HST hMT
              obtain ⟨q1, q2, q3⟩ := hset pw HPI.out
              have OS := Lib.hid (fun nq => (show OwnR rRune 21 1 w3.heap.size ((wr.drewN nq).setCell ⟨g, pl, none⟩ (.int .i32 pw)) v (s.flat.set pl pw) from q1.ext (keep_rune top) ((Ext.refl (wr.setCell ⟨g, pl, none⟩ (.int .i32 pw))).drewN nq)))
              have XS := Lib.hid (fun nq => (ext_set (HX.out.drewN nq) q3 pl (.int .i32 pw)))
              rw [hve] at OS ⊢
              clear hset q1 q3 hve2
              go_wp2_with (go_at_call 7; ((with_reducible refine (CX.out _).mono ?_); rintro e w' ⟨rfl, rfl⟩))
              go_quiet (fail)
              go_wp2
              go_roundw
              case rel => exact ⟨k + 1, .slice (some ⟨g, 0, none⟩) FN cO, rfl, by go_num, by omega, by rw [HBJ.out], by rw [HLJ.out], by rw [HFJ.out]; exact Lib.hid (OS.out _), Lib.hid (XS.out _)⟩
              case measure => simp [intOf]; omega
            | none =>
              have LK := fun q => look2_none (hMT q) ⟨hg1, hg2⟩ HI.out hf
              have HST := Lib.hid (show tgo (V.take (k + 1)) = tpush s x by rw [HS.out, tstep_out HH.out (by rw [HLA.out, HCX.out]; exact hlc) hf])
              have HBN := Lib.hid (show s.baseI = (pl : Int) by rw [HBS.out, HPL.out])
              clear hf hset
              rw [hve] at O5 ⊢
              by_cases h0 : cx = 0
              · have hz : (cx == 0) = true := by simp [h0]
                have HBX := Lib.hid (show (tgo (V.take (k + 1))).baseI = (s.flat.length : Int) by rw [HST.out]; exact tpush_base0 (by rw [HCX.out]; exact h0))
                have HLX := Lib.hid (show (tgo (V.take (k + 1))).last = cx by rw [HST.out, tpush_last, HCX.out])
                go_wp2_with (go_at_call 7; ((with_reducible refine (CX.out _).mono ?_); rintro e w' ⟨rfl, rfl⟩))
                go_quiet (fail)
                have O5' := O5; have X5' := X5; have S5' := S5
                clear O5 X5 S5
                have e5 := (Ext.refl (wr.drewN nq)).alloc (.cells #[.int .i32 x] 21)
                have O5 := Lib.hid ((HO.out.ext (keep_rune top) ((Ext.refl wr).drewN nq)).ext (keep_rune top) e5)
                rw [hve2.out] at O5
                have X5 := Lib.hid ((HX.out.drewN nq).trans e5)
                have S5 := Lib.hid (one_newR (wr.drewN nq) x 21 HI.out)
                clear e5 O5' X5' S5'
                generalize wr.drewN nq = wd at *
                go_wp2_with (refine wpList_appS T_rune (by omega) rfl (.tmp 61) (.tmp 63) rfl rfl O5.out rfl S5.out (fun _ _ h => h) one_rune (keep_rune bot) (bot_no _) (by have := HFL.out; omega) X5.out.size ?_; intro v6 w6 o6 g6 hat6; have X6 := Lib.hid (X5.out.app g6 O5.out); rw [← tpush_flat, ← HST.out] at o6; have O6 := Lib.hid o6; clear o6 g6 hat6)
                go_roundw
                case rel => exact ⟨k + 1, v6, rfl, by go_num, by omega, by rw [HBX.out]; rw [HFN.out], by rw [HLX.out]; rw [h0], O6, X6⟩
                case measure => simp [intOf]; omega
              · have hz : (cx == 0) = false := by simp [h0]
                have HBX := Lib.hid (show (tgo (V.take (k + 1))).baseI = (pl : Int) by rw [HST.out, ← HBN.out]; exact tpush_base1 (by rw [HCX.out]; exact h0))
                have HLX := Lib.hid (show (tgo (V.take (k + 1))).last = cx by rw [HST.out, tpush_last, HCX.out])
                go_wp2_with (go_at_call 7; ((with_reducible refine (CX.out _).mono ?_); rintro e w' ⟨rfl, rfl⟩))
                go_quiet (fail)
                have O5' := O5; have X5' := X5; have S5' := S5
                clear O5 X5 S5
                have e5 := (Ext.refl (wr.drewN nq)).alloc (.cells #[.int .i32 x] 21)
                have O5 := Lib.hid ((HO.out.ext (keep_rune top) ((Ext.refl wr).drewN nq)).ext (keep_rune top) e5)
                rw [hve2.out] at O5
                have X5 := Lib.hid ((HX.out.drewN nq).trans e5)
                have S5 := Lib.hid (one_newR (wr.drewN nq) x 21 HI.out)
                clear e5 O5' X5' S5'
                generalize wr.drewN nq = wd at *
                go_wp2_with (refine wpList_appS T_rune (by omega) rfl (.tmp 61) (.tmp 63) rfl rfl O5.out rfl S5.out (fun _ _ h => h) one_rune (keep_rune bot) (bot_no _) (by have := HFL.out; omega) X5.out.size ?_; intro v6 w6 o6 g6 hat6; have X6 := Lib.hid (X5.out.app g6 O5.out); rw [← tpush_flat, ← HST.out] at o6; have O6 := Lib.hid o6; clear o6 g6 hat6)
                go_roundw
                case rel => exact ⟨k + 1, v6, rfl, by go_num, by omega, by rw [HBX.out], by rw [HLX.out], O6, X6⟩
                case measure => simp [intOf]; omega
          · have gl : decide (L < cx) = false := decide_eq_false hlc
            have HST := Lib.hid (show tgo (V.take (k + 1)) = tpush s x by rw [HS.out, tstep_no HH.out (by rw [HLA.out, HCX.out]; exact hlc)])
            have HBN := Lib.hid (show s.baseI = (pl : Int) by rw [HBS.out, HPL.out])
            by_cases h0 : cx = 0
            · have hz : (cx == 0) = true := by simp [h0]
              have HBX := Lib.hid (show (tgo (V.take (k + 1))).baseI = (s.flat.length : Int) by rw [HST.out]; exact tpush_base0 (by rw [HCX.out]; exact h0))
              have HLX := Lib.hid (show (tgo (V.take (k + 1))).last = cx by rw [HST.out, tpush_last, HCX.out])
              obtain ⟨A', c', hv', _⟩ := HO.out.top
              rw [hv'] at O5 ⊢
              obtain ⟨FN, hFN⟩ : ∃ q, s.flat.length = q := ⟨_, rfl⟩
              rw [hFN] at O5 HBX ⊢
              clear hFN hv'
              go_wp2_with (first
                | (go_at_call 7; ((with_reducible refine (CX.out _).mono ?_); rintro e w' ⟨rfl, rfl⟩))
                | (refine wpList_appS T_rune (by omega) rfl (.tmp 61) (.tmp 63) rfl rfl O5.out rfl S5.out (fun _ _ h => h) one_rune (keep_rune bot) (bot_no _) (by have := HFL.out; omega) X5.out.size ?_; intro v6 w6 o6 g6 hat6; have X6 := Lib.hid (X5.out.app g6 O5.out); rw [← tpush_flat, ← HST.out] at o6; have O6 := Lib.hid o6; clear o6 g6 hat6))
              go_roundw
              case rel => exact ⟨k + 1, v6, rfl, by go_num, by omega, by rw [HBX.out], by rw [HLX.out]; rw [h0], O6, X6⟩
              case measure => simp [intOf]; omega
            · have hz : (cx == 0) = false := by simp [h0]
              have HBX := Lib.hid (show (tgo (V.take (k + 1))).baseI = (pl : Int) by rw [HST.out, ← HBN.out]; exact tpush_base1 (by rw [HCX.out]; exact h0))
              have HLX := Lib.hid (show (tgo (V.take (k + 1))).last = cx by rw [HST.out, tpush_last, HCX.out])
              go_wp2_with (first
                | (go_at_call 7; ((with_reducible refine (CX.out _).mono ?_); rintro e w' ⟨rfl, rfl⟩))
                | (refine wpList_appS T_rune (by omega) rfl (.tmp 61) (.tmp 63) rfl rfl O5.out rfl S5.out (fun _ _ h => h) one_rune (keep_rune bot) (bot_no _) (by have := HFL.out; omega) X5.out.size ?_; intro v6 w6 o6 g6 hat6; have X6 := Lib.hid (X5.out.app g6 O5.out); rw [← tpush_flat, ← HST.out] at o6; have O6 := Lib.hid o6; clear o6 g6 hat6))
              go_roundw
              case rel => exact ⟨k + 1, v6, rfl, by go_num, by omega, by rw [HBX.out], by rw [HLX.out], O6, X6⟩
              case measure => simp [intOf]; omega
      · have gz : ¬ (k : Int) < (N : Int) := by omega
        have hO := HO.out
        rw [List.take_of_length_le (by rw [HN.out]; omega), ← HB.out] at hO
        have O9 := Lib.hid (hO.mono (base' := w.heap.size) X3.out.size)
        clear hO HO
        go_wp2
        go_ret2
        rw [HE.out]
        exact ⟨⟨_, rfl, O9.out⟩, X3.out.trans HX.out⟩
  · have HB := Lib.hid (show togV l = [] by unfold togV; rw [apart_nil he]; rfl)
    rw [HB.out]
    have hn : (apartE l != 0) = true := by simpa using he
    clear he HLN HB
    generalize apartE l = er at *
    go_enter Try.func12, Try.ntmps12
    go_wp2_with (go_at_call 9; ((with_reducible refine C1.out.mono ?_); rintro e w1 ⟨⟨v, rfl, o1⟩, x1⟩))
    go_ret2
    exact ⟨⟨_, rfl, OwnR.nil _ _ _ _ _⟩, x1⟩

end Go.Proofs.Ytbcmfebfcoedkaa
