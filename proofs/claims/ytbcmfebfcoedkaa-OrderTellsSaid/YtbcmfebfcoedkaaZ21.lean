/- Walk: the document's Apart. -/
import Derived.Test.YtbcmfebfcoedkaaZ20
namespace Go.Proofs.Ytbcmfebfcoedkaa
open Go.RowKit
set_option linter.unusedVariables false
set_option linter.unusedSimpArgs false

theorem insR_at {O : List Int} {x : Int} {q : Nat} (hq : q ≤ O.length) (hb : ∀ j, q ≤ j → j < O.length → 0 < clsOf x ∧ clsOf x < clsOf (O.getD j 0))
    (hs : q = 0 ∨ clsOf x ≤ 0 ∨ clsOf (O.getD (q - 1) 0) ≤ clsOf x) : insR O x = O.take q ++ [x] ++ O.drop q := by
  have e : O = O.take q ++ O.drop q := (List.take_append_drop _ _).symm
  have h1 : O.take q = [] ∨ ∃ a' y, O.take q = a' ++ [y] ∧ (decide (0 < clsOf x) && decide (clsOf x < clsOf y)) = false := by
    by_cases h0 : q = 0
    · left; rw [h0]; rfl
    · refine .inr ⟨_, _, take_last (by omega) hq, ?_⟩
      rcases hs with h | h | h
      · exact absurd h h0
      · have : ¬ 0 < clsOf x := by omega
        rw [decide_eq_false this, Bool.false_and]
      · have : ¬ clsOf x < clsOf (O.getD (q - 1) 0) := by omega
        rw [decide_eq_false this, Bool.and_false]
  have h2 : ∀ y ∈ O.drop q, (decide (0 < clsOf x) && decide (clsOf x < clsOf y)) = true := fun y hy => by
    obtain ⟨k, hk, rfl⟩ := mem_getD hy
    rw [getD_drop]
    have := hb (q + k) (by omega) (by simp at hk; omega)
    rw [decide_eq_true this.1, decide_eq_true this.2]; rfl
  have := insR_split h1 h2
  rw [← e] at this
  rw [this]; simp

set_option maxRecDepth 1000000 in
set_option maxHeartbeats 16000000 in
theorem refApart_any (A : Option Addr) (n c : Nat) (l : List Int) (w : World) (h : Runes w A n c l) :
    Calls Try.prog 10 #[.slice A n c] w fun e w' => TextR w (apartE l) (apartV l) e w' := by
  have hm := h.max; unfold maxLen at hm
  have hcap := h.cap
  have C1 := Lib.hid (refText_any A n c l w h)
  by_cases hw : wrongText l = 0
  · have hn : n ≤ 4000 := by
      rw [← h.len]
      unfold wrongText at hw
      by_cases hb : 4000 < l.length
      · rw [if_pos hb] at hw; cases hw
      · omega
    have HE := Lib.hid (show apartE l = if 4000 < (flatL l).length then 4 else 0 by unfold apartE; rw [if_neg (by simp [hw])])
    have HL := Lib.hid h.len
    have H := Lib.hid h
    rw [hw] at C1
    have CL := Lib.hid (fun r W => refClass_any r W)
    clear h hw
    go_enter Try.func10, Try.ntmps10
    go_wp2_with (go_at_call 29; ((with_reducible refine C1.out.mono ?_); rintro e w1 ⟨rfl, rfl⟩))
    clear C1
    go_loopw [5, 18] (fun vo vi wr => ∃ (k : Nat) (v : Value), v = vo ∧ vi = .int .i64 k ∧ k ≤ n ∧ Hid (OwnR rRune 21 1 w.heap.size wr v (nsort (flatL (l.take k)))) ∧ Hid (Ext w wr)) (fun _ vi _ => n - (intOf vi).toNat)
    case atStart => exact ⟨0, _, rfl, rfl, by omega, Lib.hid (OwnR.nil _ _ _ _ _), Lib.hid (Ext.refl _)⟩
    case round =>
      obtain ⟨k, v, rfl, rfl, hk, HO, HX⟩ := hrel
      by_cases hlt : k < n
      · have gz : (k : Int) < (n : Int) := by omega
        have hR := H.out.ext HX.out
        obtain ⟨x0, hxx⟩ := hR.idx hlt
        obtain ⟨b, off, rfl, hbb, hc, hi1, hi2⟩ := hR.rune hxx
        have CF := Lib.hid (refFull_any 2 x0 wr (by omega) (lvl_two x0) ⟨hi1, hi2⟩)
        have HS := Lib.hid (flat_snoc hxx)
        have HFL := Lib.hid (show (flatL (l.take k)).length ≤ 12000 from by have := flat_len (l.take k); have h5 : (l.take k).length ≤ k := (by rw [List.length_take]; omega); omega)
        have HF2 := Lib.hid (fullD_len 2 x0)
        have HFI := Lib.hid (fullD_i32 2 x0 ⟨hi1, hi2⟩)
        clear hR hxx
        generalize hFk : flatL (l.take k) = F at *
        have hfx : fullL x0 = fullD 2 x0 := rfl
        rw [hfx] at HS
        generalize fullD 2 x0 = FX at *
        clear hfx hFk
        go_wp2_with (go_at_call 30; ((with_reducible refine CF.out.mono ?_); rintro e w2 ⟨⟨v2, rfl, o2⟩, x2⟩; obtain ⟨A2, c2, rfl, s2⟩ := o2.top; have X2 := Lib.hid x2; have S2 := Lib.hid s2; clear o2 x2 s2))
        have O2 := Lib.hid (HO.out.ext (keep_rune top) X2.out)
        have HX2 := Lib.hid (HX.out.trans X2.out)
        obtain ⟨m, hm⟩ : ∃ m, FX.length = m := ⟨_, rfl⟩
        rw [hm] at S2 ⊢
        have HM := Lib.hid hm
        have hm3 : m ≤ 3 := by rw [← hm]; exact HF2.out
        clear hm HO HX hc
        go_loopw [5, 25] (fun vo vi w3 => ∃ (j : Nat) (v3 : Value), v3 = vo ∧ vi = .int .i64 j ∧ j ≤ m ∧ Hid (OwnR rRune 21 1 w.heap.size w3 v3 (nsort (F ++ FX.take j))) ∧ Hid (Ext w2 w3)) (fun _ vi _ => m - (intOf vi).toNat)
        case atStart => exact ⟨0, v, rfl, rfl, by omega, by simpa using O2, Lib.hid (Ext.refl _)⟩
        case round =>
          clear O2
          obtain ⟨j, v3, rfl, rfl, hj, HO, HX⟩ := hrel
          by_cases hjm : j < m
          · have gj : (j : Int) < (m : Int) := by omega
            have hR := Runes.ext S2.out HX.out
            obtain ⟨x, hxx⟩ := hR.idx hjm
            obtain ⟨b', off', rfl, hbb', hc', hi1', hi2'⟩ := hR.rune hxx
            have HI := Lib.hid (show i32 x from ⟨hi1', hi2'⟩)
            have HNX := Lib.hid (show nsort (F ++ FX.take (j + 1)) = insR (nsort (F ++ FX.take j)) x by rw [take_snoc hxx, ← List.append_assoc, nsort_snoc])
            have hOl : (nsort (F ++ FX.take j)).length ≤ 13000 := by rw [nsort_len]; have := HFL.out; simp; omega
            obtain ⟨O, hOe⟩ : ∃ O, nsort (F ++ FX.take j) = O := ⟨_, rfl⟩
            have hO := HO.out
            rw [hOe] at hO hOl HNX
            clear hOe HO
            obtain ⟨AO, cO, rfl, sO0⟩ := hO.top
            obtain ⟨N, hN⟩ : ∃ N, O.length = N := ⟨_, rfl⟩
            rw [hN] at sO0 hOl ⊢
            have SO0 := Lib.hid sO0
            have HN := Lib.hid (show O.length ≤ 13000 by omega)
            have HNe := Lib.hid hN
            have hcO := sO0.cap
            have hcm := sO0.max; unfold maxLen at hcm
            clear hO hR hxx sO0 hN
            obtain ⟨cx, hcx⟩ : ∃ q, q = clsOf x := ⟨_, rfl⟩
            have CX := Lib.hid (fun W => CL.out x W)
            rw [← hcx] at CX
            have HCX := Lib.hid hcx
            have hcx0 : 0 ≤ cx := by rw [hcx]; exact (clsOf_nn x).1
            clear hcx
            go_wp2
            go_loopw [10] (fun vq w4 => ∃ q : Nat, vq = .int .i64 q ∧ q ≤ N ∧ Hid (∀ j, q ≤ j → j < O.length → 0 < clsOf x ∧ clsOf x < clsOf (O.getD j 0)) ∧ Hid (Ext w2 w4) ∧ Hid (Runes w4 AO N cO O)) (fun vq _ => (intOf vq).toNat)
            case atStart => exact ⟨N, rfl, by omega, Lib.hid (fun j h1 h2 => by have := HNe.out; omega), HX, SO0⟩
            case round =>
              clear HX SO0 hc'
              obtain ⟨q, rfl, hq, HB, HX3, SO⟩ := hrel
              have HXW := Lib.hid (HX2.out.trans HX3.out)
              have sO := SO.out
              have gk : (0 : Int) ≤ (q : Int) := by omega
              by_cases h0 : 0 < cx
              · have gz0 : decide (0 < cx) = true := decide_eq_true h0
                by_cases hq0 : 0 < q
                · have gz1 : (0 : Int) < (q : Int) := by omega
                  have gz2 : decide ((0 : Int) < (q : Int)) = true := decide_eq_true gz1
                  obtain ⟨p, hp⟩ : ∃ p, p + 1 = q := ⟨q - 1, by omega⟩
                  obtain ⟨y, hy⟩ : ∃ y, O[p]? = some y := ⟨_, List.getElem?_eq_getElem (by have := HNe.out; omega)⟩
                  obtain ⟨bO, offO, rfl, hbO, hcy, _⟩ := sO.rune hy
                  have hyd : O.getD p 0 = y := by rw [List.getD_eq_getElem?_getD, hy]; rfl
                  obtain ⟨cy, hcy'⟩ : ∃ q, q = clsOf y := ⟨_, rfl⟩
                  have CY := Lib.hid (fun W => CL.out y W)
                  rw [← hcy'] at CY
                  have ep : (q : Int) - 1 = (p : Int) := by omega
                  have wp : IntKind.i64.wrap ((q : Int) - 1) = (p : Int) := by rw [IntKind.wrap_i64]; omega
                  have wp' : IntKind.i64.wrap (p : Int) = (p : Int) := by rw [IntKind.wrap_i64]; omega
                  have bp : (p : Int) < (N : Int) := by omega
                  by_cases hgo : cx < cy
                  · have gz3 : decide (cx < cy) = true := decide_eq_true hgo
                    have HB2 := Lib.hid (show ∀ j, p ≤ j → j < O.length → 0 < clsOf x ∧ clsOf x < clsOf (O.getD j 0) from fun j h1 h2 => by
                      by_cases e : j = p
                      · rw [e, hyd, ← HCX.out, ← hcy']; exact ⟨h0, hgo⟩
                      · exact HB.out j (by omega) h2)
                    have HX4 := HX3
                    clear hy hyd hcy' hp HB sO
                    go_wp2_with (first
                      | (go_at_call 8; ((with_reducible refine (CX.out _).mono ?_); rintro e w' ⟨rfl, rfl⟩))
                      | (go_at_call 8; ((with_reducible refine (CY.out _).mono ?_); rintro e w' ⟨rfl, rfl⟩)))
                    go_roundw
                    case rel => exact ⟨p, by first | rfl | go_num, by omega, HB2, HX3, SO⟩
                    case measure => simp [intOf]; omega
                  · have gz3 : decide (cx < cy) = false := decide_eq_false hgo
                    have HINS := Lib.hid (insR_at (O := O) (x := x) (q := q) (by have := HNe.out; omega) HB.out (.inr (.inr (by rw [show q - 1 = p by omega, hyd, ← HCX.out, ← hcy']; omega))))
                    clear hyd hcy' hp HB
                    go_wp2_with (first
                      | (go_at_call 8; ((with_reducible refine (CX.out _).mono ?_); rintro e w' ⟨rfl, rfl⟩))
                      | (go_at_call 8; ((with_reducible refine (CY.out _).mono ?_); rintro e w' ⟨rfl, rfl⟩)))
                    clear gk gz0 gz1 gz2 gz3 hcy hy
                    have RO := Lib.hid sO
                    clear sO
                    have hs1 := fun W => run_cut_h T_rune (some ⟨bO, offO, none⟩) N cO (q : Int) q rfl (by omega) W
                    have hs2 := fun W => run_cut_l T_rune (some ⟨bO, offO, none⟩) N cO (q : Int) q rfl (by omega) W
                    have E1 := Lib.hid ((((Ext.refl wr).alloc (.cells #[] 21)).alloc (.cells #[.int .i32 x] 21)).drew)
                    have E2 := Lib.hid (((Ext.refl wr).alloc (.cells #[] 21)).drew)
                    have E3 := Lib.hid ((((Ext.refl wr).alloc (.cells #[.int .i32 x] 21)).alloc (.cells #[] 21)).drew)
                    have z1 : (wr.alloc (.cells #[] 21)).heap.size = wr.heap.size + 1 := by simp
                    have z2 : (wr.alloc (.cells #[.int .i32 x] 21)).heap.size = wr.heap.size + 1 := by simp
                    have oE := OwnR.empty rRune 21 1 wr.heap.size wr (Nat.le_refl _)
                    have oE1 := Lib.hid (oE.ext (keep_rune top) ((((Ext.refl (wr.alloc (.cells #[] 21))).alloc (.cells #[.int .i32 x] 21))).drew))
                    have oE2 := Lib.hid (oE.ext (keep_rune top) (Ext.refl (wr.alloc (.cells #[] 21))).drew)
                    have oE3 := OwnR.empty rRune 21 1 wr.heap.size (wr.alloc (.cells #[.int .i32 x] 21)) (by omega)
                    rw [z2] at oE3
                    have oE3' := Lib.hid (oE3.ext (keep_rune top) (Ext.refl ((wr.alloc (.cells #[.int .i32 x] 21)).alloc (.cells #[] 21))).drew)
                    have sx1 := one_newR (wr.alloc (.cells #[] 21)) x 21 HI.out
                    rw [z1] at sx1
                    have SX1 := Lib.hid (slr_ok (ok' := fun b => b = wr.heap.size + 1) (Runes.ext sx1 (Ext.refl _).drew) rfl)
                    have sx3 := one_newR wr x 21 HI.out
                    have SX3 := Lib.hid (slr_ok (ok' := fun b => b = wr.heap.size) (Runes.ext sx3 ((Ext.refl (wr.alloc (.cells #[.int .i32 x] 21))).alloc (.cells #[] 21)).drew) rfl)
                    clear oE oE3 sx1 sx3 z1 z2
                    go_region_held3 (fun w' => True)
                      (trivial)
                      (first
                        | (refine step_appS T_rune (by omega) rfl (.tmp 51) (.tmp 54) rfl rfl oE1.out rfl ((Runes.ext RO.out E1.out).take (hi := q) (by omega)) (fun _ _ h => h) one_rune (keep_rune bot) (bot_no _) ?_ E1.out.size ?_
                           · have := HN.out; simp; omega
                           intro v5 w5 o5 g5 hat5
                           have x5 := E1.out.app g5 oE1.out
                           rw [List.nil_append] at o5
                           have O5 := Lib.hid o5; have X5 := Lib.hid x5
                           have SX := Lib.hid (SX1.out.keep (keep_rune _) (grown_agree g5 (fun g hg h => by have h1 : wr.heap.size = g := Option.some.inj hg; have h2 : g = wr.heap.size + 1 := h; omega)))
                           clear o5 g5 hat5 x5)
                        | (refine step_appS T_rune (by omega) rfl (.tmp 51) (.tmp 54) rfl rfl oE3'.out rfl ((Runes.ext RO.out E3.out).take (hi := q) (by omega)) (fun _ _ h => h) one_rune (keep_rune bot) (bot_no _) ?_ E3.out.size ?_
                           · have := HN.out; simp; omega
                           intro v5 w5 o5 g5 hat5
                           have x5 := E3.out.app g5 oE3'.out
                           rw [List.nil_append] at o5
                           have O5 := Lib.hid o5; have X5 := Lib.hid x5
                           have SX := Lib.hid (SX3.out.keep (keep_rune _) (grown_agree g5 (fun g hg h => by have h1 : wr.heap.size + 1 = g := Option.some.inj hg; have h2 : g = wr.heap.size := h; omega)))
                           clear o5 g5 hat5 x5)
                        | (refine step_appS T_rune (by omega) rfl (.tmp 51) (.tmp 54) rfl rfl oE2.out rfl ((Runes.ext RO.out E2.out).take (hi := q) (by omega)) (fun _ _ h => h) one_rune (keep_rune bot) (bot_no _) ?_ E2.out.size ?_
                           · have := HN.out; simp; omega
                           intro v5 w5 o5 g5 hat5
                           have x5 := E2.out.app g5 oE2.out
                           rw [List.nil_append] at o5
                           have y5 := (Ext.refl w5).alloc (.cells #[.int .i32 x] 21)
                           have O5n := Lib.hid (o5.ext (keep_rune top) y5); have X5n := Lib.hid (x5.trans y5)
                           have SXn := Lib.hid (one_newR w5 x 21 HI.out)
                           clear o5 g5 hat5 x5 y5)
                        | (refine step_appS T_rune (by omega) rfl (.tmp 55) (.tmp 57) rfl rfl O5.out rfl SX.out (fun _ _ h => h) one_rune (keep_rune bot) (bot_no _) ?_ X5.out.size ?_
                           · have := HN.out; simp; omega
                           intro v6 w6 o6 g6 hat6
                           have O6 := Lib.hid o6; have X6 := Lib.hid (X5.out.app g6 O5.out)
                           clear o6 g6 hat6)
                        | (refine step_appS T_rune (by omega) rfl (.tmp 55) (.tmp 57) rfl rfl O5n.out rfl SXn.out (fun _ _ h => h) one_rune (keep_rune bot) (bot_no _) ?_ X5n.out.size ?_
                           · have := HN.out; simp; omega
                           intro v6 w6 o6 g6 hat6
                           have O6 := Lib.hid o6; have X6 := Lib.hid (X5n.out.app g6 O5n.out)
                           clear o6 g6 hat6)
                        | (refine step_appS T_rune (by omega) rfl (.tmp 58) (.tmp 61) rfl rfl O6.out rfl ((Runes.ext RO.out X6.out).drop (lo := q) (by omega)) (fun _ _ h => h) one_rune (keep_rune bot) (bot_no _) ?_ X6.out.size ?_
                           · have := HN.out; simp; omega
                           intro v7 w7 o7 g7 hat7
                           have X7 := Lib.hid (X6.out.app g7 O6.out)
                           rw [← HINS.out] at o7
                           have O7 := Lib.hid (o7.mono (base' := w.heap.size) HXW.out.size)
                           clear o7 g7 hat7)
                        | fail)
                    all_goals
                      clear hs1 hs2
                      go_wp2
                      go_roundw
                      case rel => exact ⟨j + 1, v7, rfl, by go_num, by omega, by rw [HNX.out]; exact O7, Lib.hid (HX3.out.trans X7.out)⟩
                      case measure => simp [intOf]; omega

                · have gz1 : ¬ (0 : Int) < (q : Int) := by omega
                  have gz2 : decide ((0 : Int) < (q : Int)) = false := decide_eq_false gz1
                  have gz3 : True := trivial
                  have HINS := Lib.hid (insR_at (O := O) (x := x) (q := q) (by have := HNe.out; omega) HB.out (.inl (by omega)))
                  clear HB
                  go_wp2_with (go_at_call 8; ((with_reducible refine (CX.out _).mono ?_); rintro e w' ⟨rfl, rfl⟩))
                  clear gk gz0 gz1 gz2 gz3
                  have RO := Lib.hid sO
                  clear sO
                  have hs1 := fun W => run_cut_h T_rune AO N cO (q : Int) q rfl (by omega) W
                  have hs2 := fun W => run_cut_l T_rune AO N cO (q : Int) q rfl (by omega) W
                  have E1 := Lib.hid ((((Ext.refl wr).alloc (.cells #[] 21)).alloc (.cells #[.int .i32 x] 21)).drew)
                  have E2 := Lib.hid (((Ext.refl wr).alloc (.cells #[] 21)).drew)
                  have E3 := Lib.hid ((((Ext.refl wr).alloc (.cells #[.int .i32 x] 21)).alloc (.cells #[] 21)).drew)
                  have z1 : (wr.alloc (.cells #[] 21)).heap.size = wr.heap.size + 1 := by simp
                  have z2 : (wr.alloc (.cells #[.int .i32 x] 21)).heap.size = wr.heap.size + 1 := by simp
                  have oE := OwnR.empty rRune 21 1 wr.heap.size wr (Nat.le_refl _)
                  have oE1 := Lib.hid (oE.ext (keep_rune top) ((((Ext.refl (wr.alloc (.cells #[] 21))).alloc (.cells #[.int .i32 x] 21))).drew))
                  have oE2 := Lib.hid (oE.ext (keep_rune top) (Ext.refl (wr.alloc (.cells #[] 21))).drew)
                  have oE3 := OwnR.empty rRune 21 1 wr.heap.size (wr.alloc (.cells #[.int .i32 x] 21)) (by omega)
                  rw [z2] at oE3
                  have oE3' := Lib.hid (oE3.ext (keep_rune top) (Ext.refl ((wr.alloc (.cells #[.int .i32 x] 21)).alloc (.cells #[] 21))).drew)
                  have sx1 := one_newR (wr.alloc (.cells #[] 21)) x 21 HI.out
                  rw [z1] at sx1
                  have SX1 := Lib.hid (slr_ok (ok' := fun b => b = wr.heap.size + 1) (Runes.ext sx1 (Ext.refl _).drew) rfl)
                  have sx3 := one_newR wr x 21 HI.out
                  have SX3 := Lib.hid (slr_ok (ok' := fun b => b = wr.heap.size) (Runes.ext sx3 ((Ext.refl (wr.alloc (.cells #[.int .i32 x] 21))).alloc (.cells #[] 21)).drew) rfl)
                  clear oE oE3 sx1 sx3 z1 z2
                  go_region_held3 (fun w' => True)
                    (trivial)
                    (first
                      | (refine step_appS T_rune (by omega) rfl (.tmp 51) (.tmp 54) rfl rfl oE1.out rfl ((Runes.ext RO.out E1.out).take (hi := q) (by omega)) (fun _ _ h => h) one_rune (keep_rune bot) (bot_no _) ?_ E1.out.size ?_
                         · have := HN.out; simp; omega
                         intro v5 w5 o5 g5 hat5
                         have x5 := E1.out.app g5 oE1.out
                         rw [List.nil_append] at o5
                         have O5 := Lib.hid o5; have X5 := Lib.hid x5
                         have SX := Lib.hid (SX1.out.keep (keep_rune _) (grown_agree g5 (fun g hg h => by have h1 : wr.heap.size = g := Option.some.inj hg; have h2 : g = wr.heap.size + 1 := h; omega)))
                         clear o5 g5 hat5 x5)
                      | (refine step_appS T_rune (by omega) rfl (.tmp 51) (.tmp 54) rfl rfl oE3'.out rfl ((Runes.ext RO.out E3.out).take (hi := q) (by omega)) (fun _ _ h => h) one_rune (keep_rune bot) (bot_no _) ?_ E3.out.size ?_
                         · have := HN.out; simp; omega
                         intro v5 w5 o5 g5 hat5
                         have x5 := E3.out.app g5 oE3'.out
                         rw [List.nil_append] at o5
                         have O5 := Lib.hid o5; have X5 := Lib.hid x5
                         have SX := Lib.hid (SX3.out.keep (keep_rune _) (grown_agree g5 (fun g hg h => by have h1 : wr.heap.size + 1 = g := Option.some.inj hg; have h2 : g = wr.heap.size := h; omega)))
                         clear o5 g5 hat5 x5)
                      | (refine step_appS T_rune (by omega) rfl (.tmp 51) (.tmp 54) rfl rfl oE2.out rfl ((Runes.ext RO.out E2.out).take (hi := q) (by omega)) (fun _ _ h => h) one_rune (keep_rune bot) (bot_no _) ?_ E2.out.size ?_
                         · have := HN.out; simp; omega
                         intro v5 w5 o5 g5 hat5
                         have x5 := E2.out.app g5 oE2.out
                         rw [List.nil_append] at o5
                         have y5 := (Ext.refl w5).alloc (.cells #[.int .i32 x] 21)
                         have O5n := Lib.hid (o5.ext (keep_rune top) y5); have X5n := Lib.hid (x5.trans y5)
                         have SXn := Lib.hid (one_newR w5 x 21 HI.out)
                         clear o5 g5 hat5 x5 y5)
                      | (refine step_appS T_rune (by omega) rfl (.tmp 55) (.tmp 57) rfl rfl O5.out rfl SX.out (fun _ _ h => h) one_rune (keep_rune bot) (bot_no _) ?_ X5.out.size ?_
                         · have := HN.out; simp; omega
                         intro v6 w6 o6 g6 hat6
                         have O6 := Lib.hid o6; have X6 := Lib.hid (X5.out.app g6 O5.out)
                         clear o6 g6 hat6)
                      | (refine step_appS T_rune (by omega) rfl (.tmp 55) (.tmp 57) rfl rfl O5n.out rfl SXn.out (fun _ _ h => h) one_rune (keep_rune bot) (bot_no _) ?_ X5n.out.size ?_
                         · have := HN.out; simp; omega
                         intro v6 w6 o6 g6 hat6
                         have O6 := Lib.hid o6; have X6 := Lib.hid (X5n.out.app g6 O5n.out)
                         clear o6 g6 hat6)
                      | (refine step_appS T_rune (by omega) rfl (.tmp 58) (.tmp 61) rfl rfl O6.out rfl ((Runes.ext RO.out X6.out).drop (lo := q) (by omega)) (fun _ _ h => h) one_rune (keep_rune bot) (bot_no _) ?_ X6.out.size ?_
                         · have := HN.out; simp; omega
                         intro v7 w7 o7 g7 hat7
                         have X7 := Lib.hid (X6.out.app g7 O6.out)
                         rw [← HINS.out] at o7
                         have O7 := Lib.hid (o7.mono (base' := w.heap.size) HXW.out.size)
                         clear o7 g7 hat7)
                      | fail)
                  all_goals
                    clear hs1 hs2
                    go_wp2
                    go_roundw
                    case rel => exact ⟨j + 1, v7, rfl, by go_num, by omega, by rw [HNX.out]; exact O7, Lib.hid (HX3.out.trans X7.out)⟩
                    case measure => simp [intOf]; omega

              · have gz0 : decide (0 < cx) = false := decide_eq_false h0
                have gz1 : True := trivial
                have gz2 : True := trivial
                have gz3 : True := trivial
                have HINS := Lib.hid (insR_at (O := O) (x := x) (q := q) (by have := HNe.out; omega) HB.out (.inr (.inl (by rw [← HCX.out]; omega))))
                clear HB
                go_wp2_with (go_at_call 8; ((with_reducible refine (CX.out _).mono ?_); rintro e w' ⟨rfl, rfl⟩))
                clear gk gz0 gz1 gz2 gz3
                have RO := Lib.hid sO
                clear sO
                have hs1 := fun W => run_cut_h T_rune AO N cO (q : Int) q rfl (by omega) W
                have hs2 := fun W => run_cut_l T_rune AO N cO (q : Int) q rfl (by omega) W
                have E1 := Lib.hid ((((Ext.refl wr).alloc (.cells #[] 21)).alloc (.cells #[.int .i32 x] 21)).drew)
                have E2 := Lib.hid (((Ext.refl wr).alloc (.cells #[] 21)).drew)
                have E3 := Lib.hid ((((Ext.refl wr).alloc (.cells #[.int .i32 x] 21)).alloc (.cells #[] 21)).drew)
                have z1 : (wr.alloc (.cells #[] 21)).heap.size = wr.heap.size + 1 := by simp
                have z2 : (wr.alloc (.cells #[.int .i32 x] 21)).heap.size = wr.heap.size + 1 := by simp
                have oE := OwnR.empty rRune 21 1 wr.heap.size wr (Nat.le_refl _)
                have oE1 := Lib.hid (oE.ext (keep_rune top) ((((Ext.refl (wr.alloc (.cells #[] 21))).alloc (.cells #[.int .i32 x] 21))).drew))
                have oE2 := Lib.hid (oE.ext (keep_rune top) (Ext.refl (wr.alloc (.cells #[] 21))).drew)
                have oE3 := OwnR.empty rRune 21 1 wr.heap.size (wr.alloc (.cells #[.int .i32 x] 21)) (by omega)
                rw [z2] at oE3
                have oE3' := Lib.hid (oE3.ext (keep_rune top) (Ext.refl ((wr.alloc (.cells #[.int .i32 x] 21)).alloc (.cells #[] 21))).drew)
                have sx1 := one_newR (wr.alloc (.cells #[] 21)) x 21 HI.out
                rw [z1] at sx1
                have SX1 := Lib.hid (slr_ok (ok' := fun b => b = wr.heap.size + 1) (Runes.ext sx1 (Ext.refl _).drew) rfl)
                have sx3 := one_newR wr x 21 HI.out
                have SX3 := Lib.hid (slr_ok (ok' := fun b => b = wr.heap.size) (Runes.ext sx3 ((Ext.refl (wr.alloc (.cells #[.int .i32 x] 21))).alloc (.cells #[] 21)).drew) rfl)
                clear oE oE3 sx1 sx3 z1 z2
                go_region_held3 (fun w' => True)
                  (trivial)
                  (first
                    | (refine step_appS T_rune (by omega) rfl (.tmp 51) (.tmp 54) rfl rfl oE1.out rfl ((Runes.ext RO.out E1.out).take (hi := q) (by omega)) (fun _ _ h => h) one_rune (keep_rune bot) (bot_no _) ?_ E1.out.size ?_
                       · have := HN.out; simp; omega
                       intro v5 w5 o5 g5 hat5
                       have x5 := E1.out.app g5 oE1.out
                       rw [List.nil_append] at o5
                       have O5 := Lib.hid o5; have X5 := Lib.hid x5
                       have SX := Lib.hid (SX1.out.keep (keep_rune _) (grown_agree g5 (fun g hg h => by have h1 : wr.heap.size = g := Option.some.inj hg; have h2 : g = wr.heap.size + 1 := h; omega)))
                       clear o5 g5 hat5 x5)
                    | (refine step_appS T_rune (by omega) rfl (.tmp 51) (.tmp 54) rfl rfl oE3'.out rfl ((Runes.ext RO.out E3.out).take (hi := q) (by omega)) (fun _ _ h => h) one_rune (keep_rune bot) (bot_no _) ?_ E3.out.size ?_
                       · have := HN.out; simp; omega
                       intro v5 w5 o5 g5 hat5
                       have x5 := E3.out.app g5 oE3'.out
                       rw [List.nil_append] at o5
                       have O5 := Lib.hid o5; have X5 := Lib.hid x5
                       have SX := Lib.hid (SX3.out.keep (keep_rune _) (grown_agree g5 (fun g hg h => by have h1 : wr.heap.size + 1 = g := Option.some.inj hg; have h2 : g = wr.heap.size := h; omega)))
                       clear o5 g5 hat5 x5)
                    | (refine step_appS T_rune (by omega) rfl (.tmp 51) (.tmp 54) rfl rfl oE2.out rfl ((Runes.ext RO.out E2.out).take (hi := q) (by omega)) (fun _ _ h => h) one_rune (keep_rune bot) (bot_no _) ?_ E2.out.size ?_
                       · have := HN.out; simp; omega
                       intro v5 w5 o5 g5 hat5
                       have x5 := E2.out.app g5 oE2.out
                       rw [List.nil_append] at o5
                       have y5 := (Ext.refl w5).alloc (.cells #[.int .i32 x] 21)
                       have O5n := Lib.hid (o5.ext (keep_rune top) y5); have X5n := Lib.hid (x5.trans y5)
                       have SXn := Lib.hid (one_newR w5 x 21 HI.out)
                       clear o5 g5 hat5 x5 y5)
                    | (refine step_appS T_rune (by omega) rfl (.tmp 55) (.tmp 57) rfl rfl O5.out rfl SX.out (fun _ _ h => h) one_rune (keep_rune bot) (bot_no _) ?_ X5.out.size ?_
                       · have := HN.out; simp; omega
                       intro v6 w6 o6 g6 hat6
                       have O6 := Lib.hid o6; have X6 := Lib.hid (X5.out.app g6 O5.out)
                       clear o6 g6 hat6)
                    | (refine step_appS T_rune (by omega) rfl (.tmp 55) (.tmp 57) rfl rfl O5n.out rfl SXn.out (fun _ _ h => h) one_rune (keep_rune bot) (bot_no _) ?_ X5n.out.size ?_
                       · have := HN.out; simp; omega
                       intro v6 w6 o6 g6 hat6
                       have O6 := Lib.hid o6; have X6 := Lib.hid (X5n.out.app g6 O5n.out)
                       clear o6 g6 hat6)
                    | (refine step_appS T_rune (by omega) rfl (.tmp 58) (.tmp 61) rfl rfl O6.out rfl ((Runes.ext RO.out X6.out).drop (lo := q) (by omega)) (fun _ _ h => h) one_rune (keep_rune bot) (bot_no _) ?_ X6.out.size ?_
                       · have := HN.out; simp; omega
                       intro v7 w7 o7 g7 hat7
                       have X7 := Lib.hid (X6.out.app g7 O6.out)
                       rw [← HINS.out] at o7
                       have O7 := Lib.hid (o7.mono (base' := w.heap.size) HXW.out.size)
                       clear o7 g7 hat7)
                    | fail)
                all_goals
                  clear hs1 hs2
                  go_wp2
                  go_roundw
                  case rel => exact ⟨j + 1, v7, rfl, by go_num, by omega, by rw [HNX.out]; exact O7, Lib.hid (HX3.out.trans X7.out)⟩
                  case measure => simp [intOf]; omega

          · have gj : ¬ (j : Int) < (m : Int) := by omega
            have hO := HO.out
            rw [List.take_of_length_le (by rw [HM.out]; omega), ← HS.out] at hO
            have O9 := Lib.hid hO; clear hO HO
            have X9 := Lib.hid (HX2.out.trans HX.out)
            go_wp2
            exact ⟨⟨k + 1, v3, rfl, by go_num, by omega, O9, X9⟩, by simp [intOf]; omega⟩
      · have gz : ¬ (k : Int) < (n : Int) := by omega
        have hO := HO.out
        rw [List.take_of_length_le (by rw [HL.out]; omega)] at hO
        clear HO
        have hlen : (nsort (flatL l)).length = (flatL l).length := nsort_len _
        obtain ⟨A', c', rfl, s2⟩ := hO.top
        by_cases hbig : 4000 < (flatL l).length
        · have E0 := Lib.hid (show apartE l = 4 by rw [HE.out, if_pos hbig])
          have E1 := Lib.hid (show apartV l = [] by unfold apartV; rw [E0.out]; rfl)
          rw [hlen] at hO s2 ⊢
          have gb : (4000 : Int) < ((flatL l).length : Int) := by omega
          clear hO s2 hlen
          go_wp2
          go_ret2
          rw [E0.out, E1.out]
          exact ⟨⟨_, rfl, OwnR.nil _ _ _ _ _⟩, HX.out⟩
        · have E0 := Lib.hid (show apartE l = 0 by rw [HE.out, if_neg hbig])
          have E1 := Lib.hid (show apartV l = nsort (flatL l) by unfold apartV; rw [if_pos E0.out])
          rw [hlen] at hO ⊢
          have gb : ¬ (4000 : Int) < ((flatL l).length : Int) := by omega
          have O9 := Lib.hid hO
          clear hO s2 hlen
          go_wp2
          go_ret2
          rw [E0.out, E1.out]
          exact ⟨⟨_, rfl, O9.out⟩, HX.out⟩
  · have HE : apartE l = wrongText l := by unfold apartE; rw [if_pos (by simpa using hw)]
    have HV : apartV l = [] := by unfold apartV; rw [HE, if_neg hw]
    rw [HE, HV]
    have hn : (wrongText l != 0) = true := by simpa using hw
    clear h HE HV
    generalize wrongText l = er at *
    go_enter Try.func10, Try.ntmps10
    go_wp2_with (go_at_call 29; ((with_reducible refine C1.out.mono ?_); rintro e w1 ⟨rfl, rfl⟩))
    go_ret2
    exact ⟨⟨_, rfl, OwnR.nil _ _ _ _ _⟩, Ext.refl _⟩

end Go.Proofs.Ytbcmfebfcoedkaa
