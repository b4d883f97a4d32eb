/- Walk: the document's Sort. -/
import Derived.Test.YtbcmfebfcoedkaaZ37
namespace Go.Proofs.Ytbcmfebfcoedkaa
open Go.RowKit
set_option linter.unusedVariables false
set_option linter.unusedSimpArgs false

theorem ins_at {f : Int → Int → Int} (cl : CL f) {O : List Int} {x : Int} {q : Nat} (hS : Srt (ltC f) O) (hq : q ≤ O.length) (hb : ∀ j, q ≤ j → j < O.length → 0 < f (O.getD j 0) x)
    (hs : q = 0 ∨ f (O.getD (q - 1) 0) x ≤ 0) : insA (ltC f) O x = O.take q ++ [x] ++ O.drop q := by
  have h1 : ∀ y ∈ O.take q, ltC f x y = false := fun y hy => by
    obtain ⟨j, hj, rfl⟩ := mem_getD hy
    have hj' : j < q := by rw [List.length_take] at hj; omega
    rw [getD_take hj']
    have h0 := hs.resolve_left (by omega)
    have h2 := srt_get hS cl.ord (p := j) (q := q - 1) (by omega) (by omega)
    unfold ltC at h2 ⊢
    have h3 := of_decide_eq_false h2
    have h4 := cl.anti (O.getD (q - 1) 0) (O.getD j 0)
    have h5 := cl.tr (O.getD j 0) (O.getD (q - 1) 0) x (by omega) h0
    have h6 := cl.anti (O.getD j 0) x
    exact decide_eq_false (by omega)
  have h2 : ∀ y ∈ O.drop q, ltC f x y = true := fun y hy => by
    obtain ⟨j, hj, rfl⟩ := mem_getD hy
    rw [getD_drop]
    rw [List.length_drop] at hj
    have h3 := hb (q + j) (by omega) (by omega)
    have h4 := cl.anti (O.getD (q + j) 0) x
    unfold ltC
    exact decide_eq_true (by omega)
  have := insA_split cl.ord h1 h2
  rw [List.take_append_drop] at this
  rw [this]; simp

set_option maxRecDepth 1000000 in
set_option maxHeartbeats 16000000 in
theorem refSort_any (A : Option Addr) (n c : Nat) (l : List (List Int)) (w : World) (hT : Texts w A n c l) :
    Calls Try.prog 22 #[.slice A n c] w fun e w' => SortR w (sortE l) (sortA l) (sortV l) e w' := by
  have hcap := hT.cap
  have hmx := hT.max; unfold maxLen at hmx
  have hlen := hT.len
  have e2 := (Ext.refl w).alloc (.cells #[.int .i64 0, .int .i64 0] 44)
  have f1 := cellF_new w (.int .i64 0) (.int .i64 0) 44
  have X0 := Lib.hid e2; have FC := Lib.hid f1
  have HT := Lib.hid (hT.ext X0.out)
  have HH := Lib.hid (Nat.le_refl w.heap.size)
  clear e2 f1 hT
  go_enter Try.func22, Try.ntmps22
  go_upto_region 1 with fail
  generalize w.alloc (.cells #[.int .i64 0, .int .i64 0] 44) = w0 at *
  obtain ⟨B, hB⟩ : ∃ B, B = w.heap.size := ⟨_, rfl⟩
  have HB0 := Lib.hid (show w.heap.size ≤ B by omega)
  rw [← hB] at FC ⊢
  clear hB HH
  have HH := HB0
  clear HB0
  by_cases hn : 100 < n
  · have gn : (100 : Int) < (n : Int) := by omega
    have F0 := FC.out.c0; have F1 := FC.out.c1; have FZ := FC.out.fz
    obtain ⟨h1, h2, h3⟩ := sort_many (l := l) (by omega)
    have HS := Lib.hid (And.intro h1 (And.intro h2 h3))
    clear h1 h2 h3
    go_wp2
    refine bodyPost_ret (v := .tuple #[.slice none 0 0, .agg #[.int .i64 5, .int .i64 0]]) (by simp [results, Try.results22, go_sem, F0, F1, FZ]) rfl ?_
    rw [HS.out.1, HS.out.2.1, HS.out.2.2]
    exact ⟨⟨none, 0, rfl, SlR.nil _ _ _ _ _ _ (by unfold maxLen; omega)⟩, ext_set (ext_set X0.out HH.out _ _) HH.out _ _⟩
  · have gn : ¬ (100 : Int) < (n : Int) := by omega
    have HL := Lib.hid hlen
    clear hlen
    go_wp2
    have KY := Lib.hid (fun A n c t W h => refRows_any A n c t W h)
    go_loopw [4, 17] (fun vo vi wr => ∃ (k : Nat) (v : Value), vi = .int .i64 k ∧ v = vo ∧ k ≤ n ∧ Hid (OwnR rInt 3 1 w0.heap.size wr v (isort (ltC (cfL l)) (idxs k))) ∧ Hid (∀ u ∈ l.take k, apartE u = 0) ∧ Hid (Ext w0 wr)) (fun _ vi _ => n - (intOf vi).toNat)
    case atStart => exact ⟨0, _, rfl, rfl, by omega, Lib.hid (OwnR.nil _ _ _ _ _), Lib.hid (by simp), Lib.hid (Ext.refl _)⟩
    case round =>
      obtain ⟨k, v, rfl, rfl, hk, HO, HA, HX⟩ := hrel
      by_cases hlt : k < n
      · have gz : (k : Int) < (n : Int) := by omega
        have hTr := HT.out.ext HX.out
        obtain ⟨t, ht⟩ := hTr.idx hlt
        obtain ⟨b, off, At, nt, ct, rfl, hlt1, k1, s1⟩ := hTr.sl ht
        have C := Lib.hid (KY.out At nt ct t wr s1)
        have HTK := Lib.hid ht
        have S1 := Lib.hid s1
        clear hTr s1 ht
        by_cases he : apartE t = 0
        · have HE := Lib.hid (all_snoc HA.out HTK.out he)
          rw [he] at C
          have HI := Lib.hid (show i64 (k : Int) from ⟨by omega, by omega⟩)
          have HF := Lib.hid (show (isort (ltC (cfL l)) (idxs k)).length = k by rw [isort_len (clL l).ord, idxs_len])
          have HNX := Lib.hid (show isort (ltC (cfL l)) (idxs (k + 1)) = insA (ltC (cfL l)) (isort (ltC (cfL l)) (idxs k)) k by rw [idxs_snoc, isort_snoc])
          have HSO := Lib.hid ((isort_both (clL l).ord (idxs k)).1)
          have HMO := Lib.hid (fun (x : Int) (hx : x ∈ isort (ltC (cfL l)) (idxs k)) => idxs_mem (isort_mem l hx))
          have KC := Lib.hid k1
          generalize isort (ltC (cfL l)) (idxs k) = O at *
          have HEt := Lib.hid he
          clear he
          go_upto_region 10 with (go_at_call 17; ((with_reducible refine C.out.mono ?_); rintro _ w4 ⟨⟨A1, p1, A2, p2, A3, p3, rfl, -, -, -⟩, x4⟩; have e5 := x4.alloc (.cells #[.slice A1 (letO (apartV t)).length p1, .slice A2 (marO (apartV t)).length p2, .slice A3 (greO (apartV t)).length p3] 37); have O5 := Lib.hid (HO.out.ext (keep_int top) e5); have X5 := Lib.hid (HX.out.trans e5); have S5 := Lib.hid (Runes.ext S1.out e5); have K5 := Lib.hid (e5.cell KC.out); clear e5 x4))
          generalize w4.alloc (.cells #[.slice A1 (letO (apartV t)).length p1, .slice A2 (marO (apartV t)).length p2, .slice A3 (greO (apartV t)).length p3] 37) = w5 at *
          clear HO HX KC S1 C KY FC X0 HA k1
          obtain ⟨AO, cO, rfl, sO0⟩ := O5.out.top
          obtain ⟨N, hN⟩ : ∃ N, O.length = N := ⟨_, rfl⟩
          rw [hN] at sO0 O5 ⊢
          have SO0 := Lib.hid sO0
          have HN := Lib.hid (show O.length ≤ 100 by rw [HF.out]; omega)
          have HNe := Lib.hid hN
          have hcO := sO0.cap
          have hcm := sO0.max; unfold maxLen at hcm
          have hNk : N ≤ 100 := by have := HN.out; omega
          clear sO0 hN
          go_wp2
          go_loopw [8] (fun vq w6 => ∃ q : Nat, vq = .int .i64 q ∧ q ≤ N ∧ Hid (∀ j, q ≤ j → j < O.length → 0 < cfL l (O.getD j 0) k) ∧ Hid (Ext w5 w6)) (fun vq _ => (intOf vq).toNat)
          case atStart => exact ⟨N, rfl, by omega, Lib.hid (fun j h1 h2 => by have := HNe.out; omega), Lib.hid (Ext.refl _)⟩
          case round =>
            clear hlt1
            obtain ⟨q, rfl, hq, HB, HX3⟩ := hrel
            have HXW := Lib.hid (X5.out.trans HX3.out)
            have sO : Ints wr AO N cO O := Ints.ext SO0.out HX3.out
            have gk : (0 : Int) ≤ (q : Int) := by omega
            by_cases hq0 : 0 < q
            · have gz1 : (0 : Int) < (q : Int) := by omega
              obtain ⟨p, hp⟩ : ∃ p, p + 1 = q := ⟨q - 1, by omega⟩
              obtain ⟨y, hy⟩ : ∃ y, O[p]? = some y := ⟨_, List.getElem?_eq_getElem (by have := HNe.out; omega)⟩
              obtain ⟨bO, offO, rfl, hbO, hcy, _⟩ := sO.int hy
              have hyd : O.getD p 0 = y := by rw [List.getD_eq_getElem?_getD, hy]; rfl
              have hym := HMO.out y (List.mem_of_getElem? hy)
              obtain ⟨i, hi⟩ : ∃ i : Nat, y = i := ⟨y.toNat, by omega⟩
              subst hi
              have hik : i < k := by omega
              have hTw := HT.out.ext HXW.out
              obtain ⟨ti, hti⟩ := hTw.idx (show i < n by omega)
              obtain ⟨b2, off2, Ai, ni, ci, e2, hlt2, k2, s2⟩ := hTw.sl hti
              have e3 := Option.some.inj e2
              simp only [Addr.mk.injEq] at e3
              obtain ⟨rfl, rfl, _⟩ := e3
              have hEi : apartE ti = 0 := HE.out ti (List.mem_of_getElem? (i := i) (by rw [List.getElem?_take, if_pos (by omega)]; exact hti))
              have hcf : cmpV ti t = cfL l i k := by
                unfold cfL cmpV
                rw [if_pos ⟨hEi, HEt.out⟩, Int.toNat_natCast, Int.toNat_natCast, List.getD_eq_getElem?_getD, List.getD_eq_getElem?_getD, hti, HTK.out]; rfl
              have hce : cmpE ti t = 0 := by unfold cmpE; rw [if_pos hEi]; exact HEt.out
              have C := fun pf : Far wr => refCompare_any Ai At ni ci nt ct ti t pf.out (Runes.ext s2 pf.ext) (Runes.ext S5.out (HX3.out.trans pf.ext))
              simp only [hce, hcf] at C
              have m1 := fun pf : Far wr => pf.ext.cell hcy
              have m2 := fun pf : Far wr => pf.ext.cell k2
              have m3 := fun pf : Far wr => (HX3.out.trans pf.ext).cell K5.out
              have ep : (q : Int) - 1 = (p : Int) := by omega
              have wp : IntKind.i64.wrap ((q : Int) - 1) = (p : Int) := by rw [IntKind.wrap_i64]; omega
              have wp' : IntKind.i64.wrap (p : Int) = (p : Int) := by rw [IntKind.wrap_i64]; omega
              have bp : (p : Int) < (N : Int) := by omega
              have bi : (i : Int) < (n : Int) := by omega
              have HCF := Lib.hid (show cfL l (O.getD p 0) k = cfL l i k by rw [hyd])
              clear hTw hti e2 s2 k2 hEi hcf hce hyd hym hy hcy
              obtain ⟨d, hd⟩ : ∃ d, d = cfL l i k := ⟨_, rfl⟩
              rw [← hd] at C HCF
              clear hd
              by_cases hgo : 0 < d
              · have gd : ¬ d ≤ 0 := by omega
                have HB2 := Lib.hid (show ∀ j, p ≤ j → j < O.length → 0 < cfL l (O.getD j 0) k from fun j h1 h2 => by
                  by_cases e : j = p
                  · rw [e, HCF.out]; exact hgo
                  · exact HB.out j (by omega) h2)
                clear hp HB sO
                go_wp2
                refine wp_region_far (by kernel_rfl) (by kernel_rfl) ?_
                repeat (quiet_step (first | (go_at_call 20; refine Calls.far_of (C _))))
                refine wpQuiet_nil ?_
                intro w7 hw'
                obtain ⟨pf, hw7⟩ := hw'
                have X7 : Ext wr w7 := by rw [hw7]; exact pf.ext
                have HX7 := Lib.hid (HX3.out.trans X7)
                clear hw7 pf m1 m2 m3 C X7
                go_wp2
                go_roundw
                case rel => exact ⟨p, by first | rfl | go_num, by omega, HB2, HX7⟩
                case measure => simp [intOf]; omega
              · have gd : d ≤ 0 := by omega
                have HINS := Lib.hid (ins_at (clL l) (q := q) HSO.out (by have := HNe.out; omega) HB.out (.inr (by rw [show q - 1 = p by omega, HCF.out]; exact gd)))
                clear hp HB
                go_wp2
                refine wp_region_far (by kernel_rfl) (by kernel_rfl) ?_
                repeat (quiet_step (first | (go_at_call 20; refine Calls.far_of (C _))))
                refine wpQuiet_nil ?_
                intro w7 hw'
                obtain ⟨pf, hw7⟩ := hw'
                have X7 : Ext wr w7 := by rw [hw7]; exact pf.ext
                clear hw7 pf m1 m2 m3 C
                have sO := Ints.ext sO X7
                have HXW := Lib.hid (HXW.out.trans X7)
                clear X7
                go_wp2
                have RO := Lib.hid sO
                clear sO
                have hs1 := fun W => run_cut_h T_int (some ⟨bO, offO, none⟩) N cO (q : Int) q rfl (by omega) W
                have hs2 := fun W => run_cut_l T_int (some ⟨bO, offO, none⟩) N cO (q : Int) q rfl (by omega) W
                have E1 := Lib.hid ((((Ext.refl w7).alloc (.cells #[] 3)).alloc (.cells #[.int .i64 (k : Int)] 3)).drew)
                have E2 := Lib.hid (((Ext.refl w7).alloc (.cells #[] 3)).drew)
                have E3 := Lib.hid ((((Ext.refl w7).alloc (.cells #[.int .i64 (k : Int)] 3)).alloc (.cells #[] 3)).drew)
                have z1 : (w7.alloc (.cells #[] 3)).heap.size = w7.heap.size + 1 := by simp
                have z2 : (w7.alloc (.cells #[.int .i64 (k : Int)] 3)).heap.size = w7.heap.size + 1 := by simp
                have oE := OwnR.empty rInt 3 1 w7.heap.size w7 (Nat.le_refl _)
                have oE1 := Lib.hid (oE.ext (keep_int top) ((((Ext.refl (w7.alloc (.cells #[] 3))).alloc (.cells #[.int .i64 (k : Int)] 3))).drew))
                have oE2 := Lib.hid (oE.ext (keep_int top) (Ext.refl (w7.alloc (.cells #[] 3))).drew)
                have oE3 := OwnR.empty rInt 3 1 w7.heap.size (w7.alloc (.cells #[.int .i64 (k : Int)] 3)) (by omega)
                rw [z2] at oE3
                have oE3' := Lib.hid (oE3.ext (keep_int top) (Ext.refl ((w7.alloc (.cells #[.int .i64 (k : Int)] 3)).alloc (.cells #[] 3))).drew)
                have sx1 := one_newI (w7.alloc (.cells #[] 3)) (k : Int) 3 HI.out
                rw [z1] at sx1
                have SX1 := Lib.hid (slr_ok (ok' := fun b => b = w7.heap.size + 1) (Ints.ext sx1 (Ext.refl _).drew) rfl)
                have sx3 := one_newI w7 (k : Int) 3 HI.out
                have SX3 := Lib.hid (slr_ok (ok' := fun b => b = w7.heap.size) (Ints.ext sx3 ((Ext.refl (w7.alloc (.cells #[.int .i64 (k : Int)] 3))).alloc (.cells #[] 3)).drew) rfl)
                clear oE oE3 sx1 sx3 z1 z2
                go_region_held3 (fun w' => True)
                  (trivial)
                  (first
                    | (refine step_appS T_int (by omega) rfl (.tmp 57) (.tmp 60) rfl rfl oE1.out rfl ((Ints.ext RO.out E1.out).take (hi := q) (by omega)) (fun _ _ h => h) one_int (keep_int bot) (bot_no _) ?_ E1.out.size ?_
                       · have := HN.out; simp; omega
                       intro v5 w5 o5 g5 hat5
                       have x5 := E1.out.app g5 oE1.out
                       rw [List.nil_append] at o5
                       have O5 := Lib.hid o5; have X5 := Lib.hid x5
                       have SX := Lib.hid (SX1.out.keep (keep_int _) (grown_agree g5 (fun g hg h => by have h1 : w7.heap.size = g := Option.some.inj hg; have h2 : g = w7.heap.size + 1 := h; omega)))
                       clear o5 g5 hat5 x5)
                    | (refine step_appS T_int (by omega) rfl (.tmp 57) (.tmp 60) rfl rfl oE3'.out rfl ((Ints.ext RO.out E3.out).take (hi := q) (by omega)) (fun _ _ h => h) one_int (keep_int bot) (bot_no _) ?_ E3.out.size ?_
                       · have := HN.out; simp; omega
                       intro v5 w5 o5 g5 hat5
                       have x5 := E3.out.app g5 oE3'.out
                       rw [List.nil_append] at o5
                       have O5 := Lib.hid o5; have X5 := Lib.hid x5
                       have SX := Lib.hid (SX3.out.keep (keep_int _) (grown_agree g5 (fun g hg h => by have h1 : w7.heap.size + 1 = g := Option.some.inj hg; have h2 : g = w7.heap.size := h; omega)))
                       clear o5 g5 hat5 x5)
                    | (refine step_appS T_int (by omega) rfl (.tmp 57) (.tmp 60) rfl rfl oE2.out rfl ((Ints.ext RO.out E2.out).take (hi := q) (by omega)) (fun _ _ h => h) one_int (keep_int bot) (bot_no _) ?_ E2.out.size ?_
                       · have := HN.out; simp; omega
                       intro v5 w5 o5 g5 hat5
                       have x5 := E2.out.app g5 oE2.out
                       rw [List.nil_append] at o5
                       have y5 := (Ext.refl w5).alloc (.cells #[.int .i64 (k : Int)] 3)
                       have O5n := Lib.hid (o5.ext (keep_int top) y5); have X5n := Lib.hid (x5.trans y5)
                       have SXn := Lib.hid (one_newI w5 (k : Int) 3 HI.out)
                       clear o5 g5 hat5 x5 y5)
                    | (refine step_appS T_int (by omega) rfl (.tmp 61) (.tmp 63) rfl rfl O5.out rfl SX.out (fun _ _ h => h) one_int (keep_int bot) (bot_no _) ?_ X5.out.size ?_
                       · have := HN.out; simp; omega
                       intro v6 w6 o6 g6 hat6
                       have O6 := Lib.hid o6; have X6 := Lib.hid (X5.out.app g6 O5.out)
                       clear o6 g6 hat6)
                    | (refine step_appS T_int (by omega) rfl (.tmp 61) (.tmp 63) rfl rfl O5n.out rfl SXn.out (fun _ _ h => h) one_int (keep_int bot) (bot_no _) ?_ X5n.out.size ?_
                       · have := HN.out; simp; omega
                       intro v6 w6 o6 g6 hat6
                       have O6 := Lib.hid o6; have X6 := Lib.hid (X5n.out.app g6 O5n.out)
                       clear o6 g6 hat6)
                    | (refine step_appS T_int (by omega) rfl (.tmp 64) (.tmp 67) rfl rfl O6.out rfl ((Ints.ext RO.out X6.out).drop (lo := q) (by omega)) (fun _ _ h => h) one_int (keep_int bot) (bot_no _) ?_ X6.out.size ?_
                       · have := HN.out; simp; omega
                       intro v7 w7 o7 g7 hat7
                       have X7 := Lib.hid (X6.out.app g7 O6.out)
                       rw [← HINS.out] at o7
                       have O7 := Lib.hid (o7.mono (base' := w0.heap.size) HXW.out.size)
                       clear o7 g7 hat7)
                    | fail)
                all_goals
                  clear hs1 hs2
                  go_wp2
                  go_roundw
                  case rel => exact ⟨k + 1, v7, by go_num, rfl, by omega, by rw [HNX.out]; exact O7, HE, Lib.hid (HXW.out.trans X7.out)⟩
                  case measure => simp [intOf]; omega
            · have gz1 : ¬ (0 : Int) < (q : Int) := by omega
              have HINS := Lib.hid (ins_at (clL l) (q := q) HSO.out (by have := HNe.out; omega) HB.out (.inl (by omega)))
              clear HB
              go_wp2
              have RO := Lib.hid sO
              clear sO
              have hs1 := fun W => run_cut_h T_int AO N cO (q : Int) q rfl (by omega) W
              have hs2 := fun W => run_cut_l T_int AO N cO (q : Int) q rfl (by omega) W
              have E1 := Lib.hid ((((Ext.refl wr).alloc (.cells #[] 3)).alloc (.cells #[.int .i64 (k : Int)] 3)).drew)
              have E2 := Lib.hid (((Ext.refl wr).alloc (.cells #[] 3)).drew)
              have E3 := Lib.hid ((((Ext.refl wr).alloc (.cells #[.int .i64 (k : Int)] 3)).alloc (.cells #[] 3)).drew)
              have z1 : (wr.alloc (.cells #[] 3)).heap.size = wr.heap.size + 1 := by simp
              have z2 : (wr.alloc (.cells #[.int .i64 (k : Int)] 3)).heap.size = wr.heap.size + 1 := by simp
              have oE := OwnR.empty rInt 3 1 wr.heap.size wr (Nat.le_refl _)
              have oE1 := Lib.hid (oE.ext (keep_int top) ((((Ext.refl (wr.alloc (.cells #[] 3))).alloc (.cells #[.int .i64 (k : Int)] 3))).drew))
              have oE2 := Lib.hid (oE.ext (keep_int top) (Ext.refl (wr.alloc (.cells #[] 3))).drew)
              have oE3 := OwnR.empty rInt 3 1 wr.heap.size (wr.alloc (.cells #[.int .i64 (k : Int)] 3)) (by omega)
              rw [z2] at oE3
              have oE3' := Lib.hid (oE3.ext (keep_int top) (Ext.refl ((wr.alloc (.cells #[.int .i64 (k : Int)] 3)).alloc (.cells #[] 3))).drew)
              have sx1 := one_newI (wr.alloc (.cells #[] 3)) (k : Int) 3 HI.out
              rw [z1] at sx1
              have SX1 := Lib.hid (slr_ok (ok' := fun b => b = wr.heap.size + 1) (Ints.ext sx1 (Ext.refl _).drew) rfl)
              have sx3 := one_newI wr (k : Int) 3 HI.out
              have SX3 := Lib.hid (slr_ok (ok' := fun b => b = wr.heap.size) (Ints.ext sx3 ((Ext.refl (wr.alloc (.cells #[.int .i64 (k : Int)] 3))).alloc (.cells #[] 3)).drew) rfl)
              clear oE oE3 sx1 sx3 z1 z2
              go_region_held3 (fun w' => True)
                (trivial)
                (first
                  | (refine step_appS T_int (by omega) rfl (.tmp 57) (.tmp 60) rfl rfl oE1.out rfl ((Ints.ext RO.out E1.out).take (hi := q) (by omega)) (fun _ _ h => h) one_int (keep_int bot) (bot_no _) ?_ E1.out.size ?_
                     · have := HN.out; simp; omega
                     intro v5 w5 o5 g5 hat5
                     have x5 := E1.out.app g5 oE1.out
                     rw [List.nil_append] at o5
                     have O5 := Lib.hid o5; have X5 := Lib.hid x5
                     have SX := Lib.hid (SX1.out.keep (keep_int _) (grown_agree g5 (fun g hg h => by have h1 : wr.heap.size = g := Option.some.inj hg; have h2 : g = wr.heap.size + 1 := h; omega)))
                     clear o5 g5 hat5 x5)
                  | (refine step_appS T_int (by omega) rfl (.tmp 57) (.tmp 60) rfl rfl oE3'.out rfl ((Ints.ext RO.out E3.out).take (hi := q) (by omega)) (fun _ _ h => h) one_int (keep_int bot) (bot_no _) ?_ E3.out.size ?_
                     · have := HN.out; simp; omega
                     intro v5 w5 o5 g5 hat5
                     have x5 := E3.out.app g5 oE3'.out
                     rw [List.nil_append] at o5
                     have O5 := Lib.hid o5; have X5 := Lib.hid x5
                     have SX := Lib.hid (SX3.out.keep (keep_int _) (grown_agree g5 (fun g hg h => by have h1 : wr.heap.size + 1 = g := Option.some.inj hg; have h2 : g = wr.heap.size := h; omega)))
                     clear o5 g5 hat5 x5)
                  | (refine step_appS T_int (by omega) rfl (.tmp 57) (.tmp 60) rfl rfl oE2.out rfl ((Ints.ext RO.out E2.out).take (hi := q) (by omega)) (fun _ _ h => h) one_int (keep_int bot) (bot_no _) ?_ E2.out.size ?_
                     · have := HN.out; simp; omega
                     intro v5 w5 o5 g5 hat5
                     have x5 := E2.out.app g5 oE2.out
                     rw [List.nil_append] at o5
                     have y5 := (Ext.refl w5).alloc (.cells #[.int .i64 (k : Int)] 3)
                     have O5n := Lib.hid (o5.ext (keep_int top) y5); have X5n := Lib.hid (x5.trans y5)
                     have SXn := Lib.hid (one_newI w5 (k : Int) 3 HI.out)
                     clear o5 g5 hat5 x5 y5)
                  | (refine step_appS T_int (by omega) rfl (.tmp 61) (.tmp 63) rfl rfl O5.out rfl SX.out (fun _ _ h => h) one_int (keep_int bot) (bot_no _) ?_ X5.out.size ?_
                     · have := HN.out; simp; omega
                     intro v6 w6 o6 g6 hat6
                     have O6 := Lib.hid o6; have X6 := Lib.hid (X5.out.app g6 O5.out)
                     clear o6 g6 hat6)
                  | (refine step_appS T_int (by omega) rfl (.tmp 61) (.tmp 63) rfl rfl O5n.out rfl SXn.out (fun _ _ h => h) one_int (keep_int bot) (bot_no _) ?_ X5n.out.size ?_
                     · have := HN.out; simp; omega
                     intro v6 w6 o6 g6 hat6
                     have O6 := Lib.hid o6; have X6 := Lib.hid (X5n.out.app g6 O5n.out)
                     clear o6 g6 hat6)
                  | (refine step_appS T_int (by omega) rfl (.tmp 64) (.tmp 67) rfl rfl O6.out rfl ((Ints.ext RO.out X6.out).drop (lo := q) (by omega)) (fun _ _ h => h) one_int (keep_int bot) (bot_no _) ?_ X6.out.size ?_
                     · have := HN.out; simp; omega
                     intro v7 w7 o7 g7 hat7
                     have X7 := Lib.hid (X6.out.app g7 O6.out)
                     rw [← HINS.out] at o7
                     have O7 := Lib.hid (o7.mono (base' := w0.heap.size) HXW.out.size)
                     clear o7 g7 hat7)
                  | fail)
              all_goals
                clear hs1 hs2
                go_wp2
                go_roundw
                case rel => exact ⟨k + 1, v7, by go_num, rfl, by omega, by rw [HNX.out]; exact O7, HE, Lib.hid (HXW.out.trans X7.out)⟩
                case measure => simp [intOf]; omega
        · obtain ⟨h1, h2, h3⟩ := sort_bad (l := l) (by rw [HL.out]; omega) HA.out HTK.out he
          have HS := Lib.hid (And.intro h1 (And.intro h2 h3))
          have hne : (apartE t != 0) = true := by simpa using he
          clear h1 h2 h3 he HA HTK
          generalize apartE t = er at *
          go_wp2_with (first
            | (go_at_call 17; ((with_reducible refine C.out.mono ?_); rintro _ w4 ⟨⟨A1, p1, A2, p2, A3, p3, rfl, -, -, -⟩, x4⟩; have e5 := x4.alloc (.cells #[.slice A1 (letO (apartV t)).length p1, .slice A2 (marO (apartV t)).length p2, .slice A3 (greO (apartV t)).length p3] 37); have X4 := Lib.hid (HX.out.trans e5); have FC4 := FC.out.ext X4.out; have F0 := FC4.c0; have F1 := FC4.c1; have FZ := FC4.fz; clear FC4 x4 e5)))
          refine bodyPost_ret (v := .tuple #[.slice none 0 0, .agg #[.int .i64 er, .int .i64 k]]) (by simp [results, Try.results22, go_sem, F0, F1, FZ]) rfl ?_
          rw [HS.out.1, HS.out.2.1, HS.out.2.2]
          exact ⟨⟨none, 0, rfl, SlR.nil _ _ _ _ _ _ (by unfold maxLen; omega)⟩, ext_set (ext_set (X0.out.trans X4.out) HH.out _ _) HH.out _ _⟩
      · have gz : ¬ (k : Int) < (n : Int) := by omega
        have ek : k = n := by omega
        subst ek
        have hall : ∀ u ∈ l, apartE u = 0 := by have := HA.out; rwa [take_all HL.out (Nat.le_refl _)] at this
        obtain ⟨h1, h2, h3⟩ := sort_good (l := l) (by rw [HL.out]; omega) hall
        rw [HL.out] at h3
        have HS := Lib.hid (And.intro h1 (And.intro h2 h3))
        have FCr := FC.out.ext HX.out
        have F0 := FCr.c0; have F1 := FCr.c1; have FZ := FCr.fz
        obtain ⟨AO, cO, rfl, sO⟩ := HO.out.sl
        have RO := Lib.hid sO
        clear h1 h2 h3 hall FCr HA KY sO HT HO
        generalize isort (ltC (cfL l)) (idxs k) = Z at *
        go_wp2
        refine bodyPost_ret (v := .tuple #[.slice AO Z.length cO, .agg #[.int .i64 0, .int .i64 0]]) (by simp [results, Try.results22, go_sem, F0, F1, FZ]) rfl ?_
        rw [HS.out.1, HS.out.2.1, HS.out.2.2]
        have hBw := FC.out.lt.1
        exact ⟨⟨_, cO, rfl, (RO.out.keep (keep_int _) (fun b hb _ => (heap_setB (by omega)).trans (heap_setB (by omega)))).mono (fun _ _ h => h) (fun _ _ => trivial)⟩, ext_set (ext_set (X0.out.trans HX.out) HH.out _ _) HH.out _ _⟩

end Go.Proofs.Ytbcmfebfcoedkaa
