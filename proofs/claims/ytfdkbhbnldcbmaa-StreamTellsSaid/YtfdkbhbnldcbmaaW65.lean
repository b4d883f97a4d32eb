/- Walk: what is told of pieces, by the program. -/
import Derived.Test.YtfdkbhbnldcbmaaW64
import Derived.Test.YtfdkbhbnldcbmaaOut
namespace Go.Proofs.Ytfdkbhbnldcbmaa
open Go.RowKit
set_option linter.unusedVariables false
set_option linter.unusedSimpArgs false

/-- what Feed hands back -/
def FeedV (l : List Rule) (cs : List (List Int)) (w' : World) (x : Ending) : Prop :=
  ∃ A c, x = .returned (.tuple #[.slice A (feedO l cs).length c, .agg #[.int .i64 (feedF l cs).1, .int .i64 (feedF l cs).2]]) ∧ Texts w' A (feedO l cs).length c (feedO l cs)
theorem FeedV.bad {l : List Rule} {cs : List (List Int)} {w' : World} {p1 : Int} {p2 : Nat} (hf : feedF l cs = (p1, p2)) (ho : feedO l cs = []) :
    FeedV l cs w' (.returned (.tuple #[.slice none 0 0, .agg #[.int .i64 p1, .int .i64 p2]])) :=
  ⟨none, 0, by rw [hf, ho]; rfl, by rw [ho]; exact SlR.nil _ _ _ _ _ _ (by unfold maxLen; omega)⟩

section
variable (A : Option Addr) (n c : Nat) (l : List Rule) (T : Option Addr) (k e : Nat) (cs : List (List Int)) (w : World) (h : Rules w A n c l) (hT : Texts w T k e cs)
set_option maxRecDepth 100000 in
set_option maxHeartbeats 4000000 in
theorem Feed_none (p1 : Int) (p2 : Nat) (hp : p1 ≠ 0) (HB : ∀ W, Ext w W → Calls Try.prog 97 #[.slice A n c, .int .i64 k] W fun e w' => e = .returned (.tuple #[.pointer none, .agg #[.int .i64 p1, .int .i64 p2]]) ∧ Ext W w') :
    Calls Try.prog 42 #[.slice A n c, .slice T k e] w fun x w' => x = .returned (.tuple #[.slice none 0 0, .agg #[.int .i64 p1, .int .i64 p2]]) ∧ Ext w w' := by
  have e1 := (Ext.refl w).alloc (.cells #[.int .i64 0, .int .i64 0] 38)
  have k0 : (w.alloc (.cells #[.int .i64 0, .int .i64 0] 38)).cell? ⟨w.heap.size, 0, none⟩ = some (.int .i64 0) := by simp
  have k1 : (w.alloc (.cells #[.int .i64 0, .int .i64 0] 38)).cell? ⟨w.heap.size, 1, none⟩ = some (.int .i64 0) := by simp
  have wa := Wr.new w #[.int .i64 0, .int .i64 0] 38
  have HC := Lib.hid (HB _ e1)
  generalize hW1 : w.alloc (.cells #[.int .i64 0, .int .i64 0] 38) = w1 at *
  have HW1 := Lib.hid hW1; clear hW1
  have hr' : (p1 != 0) = true := by simpa using hp
  clear hp HB
  go_enter Try.func42, Try.ntmps42
  go_wp2_with fail
  rw [HW1.out]
  go_wp2_with (go_at_call 97; refine HC.out.mono ?_; rintro e w2 ⟨rfl, hx2⟩; have x12 := hx2.alloc (.cells #[.int .i64 p1, .int .i64 p2] 38); have v0 := x12.cell k0; have v1 := x12.cell k1; have va := (wa.ext x12).2; have n1 := Nat.ne_of_lt (wa.lt hx2); have n3 := n1.symm)
  go_region
  go_wp2
  refine bodyPost_ret (v := .tuple #[.slice none 0 0, .agg #[.int .i64 p1, .int .i64 p2]]) (by simp [results, Try.results42, go_sem, v0, v1]) rfl ?_
  exact ⟨rfl, by refine Ext.drew ?_; repeat (first | exact e1.trans x12 | refine ext_set ?_ (by omega) _ _)⟩

set_option maxRecDepth 100000 in
set_option maxHeartbeats 4000000 in
include h hT in
theorem Feed_ok (hr : (wrongRules l).1 = 0) (hk : ¬ 200 < k) :
    Calls Try.prog 42 #[.slice A n c, .slice T k e] w fun x w' => FeedV l cs w' x ∧ Ext w w' := by
  have e1 := (Ext.refl w).alloc (.cells #[.int .i64 0, .int .i64 0] 38)
  have k0 : (w.alloc (.cells #[.int .i64 0, .int .i64 0] 38)).cell? ⟨w.heap.size, 0, none⟩ = some (.int .i64 0) := by simp
  have k1 : (w.alloc (.cells #[.int .i64 0, .int .i64 0] 38)).cell? ⟨w.heap.size, 1, none⟩ = some (.int .i64 0) := by simp
  have wa := Wr.new w #[.int .i64 0, .int .i64 0] 38
  have HC := Lib.hid (begin_ok A n c l _ (h.ext e1) k hr hk)
  have OK := Lib.hid (wrongRules_zero hr).2.2
  have HAH := Lib.hid (reachB_le l 0 0 OK.out (by omega) (by omega)).2
  have hkl := Lib.hid hT.len
  have HR := Lib.hid hr
  generalize hW1 : w.alloc (.cells #[.int .i64 0, .int .i64 0] 38) = w1 at *
  have HW1 := Lib.hid hW1; clear hW1 hr
  have hsz : w.heap.size < w1.heap.size := wa.1
  have hkc := hT.cap; have hkm := hT.max; unfold maxLen at hkm
  have HFP : Hid (feedP l cs = feedGo l (reachB l 0 0).2 0 ⟨⟨[], 0, 0, 0⟩, 0, []⟩ (cs.drop 0)) := Lib.hid rfl
  have HFE : Hid (∀ s : Strm, feedE l s = goOn l (reachB l 0 0).2 true (8 * s.came + 40 - s.p.steps) s.p) := Lib.hid (fun _ => rfl)
  generalize (reachB l 0 0).2 = ah at *
  go_enter Try.func42, Try.ntmps42
  go_wp2_with fail
  rw [HW1.out]
  go_wp2_with (go_at_call 97; refine HC.out.mono ?_; rintro x w2 ⟨b, rfl, hb, PB, x2⟩; have x12 := x2.alloc (.cells #[.int .i64 0, .int .i64 0] 38); have v0 := x12.cell k0; have v1 := x12.cell k1; have PL := PB.ext ((Ext.refl w2).alloc (.cells #[.int .i64 0, .int .i64 0] 38)); have E12 := e1.trans x12; have wa2 := wa.ext x12)
  have hrb : w.heap.size ≠ b := by omega
  have hwb : w.heap.size ≤ b := by omega
  generalize w2.alloc (.cells #[.int .i64 0, .int .i64 0] 38) = w3 at *
  have hb3 : b < w3.heap.size := PL.wr.1
  clear k0 k1 HC PB x2 x12 wa
  go_loopw [8, 26] (fun v i wr => ∃ (j : Nat) (tk : Nat → Prop) (X : Option Addr) (m d : Nat) (t : List Int) (a st u cm : Nat) (out : List (List Int)), i = .int .i64 j ∧ j ≤ k ∧ PlAt b tk wr A n c X m d t a a cm st ah ∧ PlayOk (8 * cm + 40) ⟨t, a, st, u⟩ ∧ cm ≤ 4000 ∧
    Hid (feedP l cs = feedGo l ah j ⟨⟨t, a, st, u⟩, cm, out⟩ (cs.drop j)) ∧ Trn b w3 wr ∧ out.length = j ∧ OutR 23 b w3.heap.size wr v out ∧ Hid (∀ g, v.ownBlock = some g → ¬ tk g)) (fun _ i _ => k - (intOf i).toNat)
  case atStart => exact ⟨0, bot, none, 0, 0, [], 0, 0, 0, 0, [], rfl, by omega, PL, ⟨Nat.le_refl _, by simp, by simp⟩, by omega, HFP, Trn.refl _ _, rfl, OutR.nil _ _ _ _, Lib.hid (fun _ _ h => h)⟩
  case round =>
    obtain ⟨j, tk, X, m, d, t, a, st, u, cm, out, rfl, hj, PA, hok, hcm, HG, hTr, hol, HO, Htk⟩ := hrel
    obtain ⟨AO, cO, rfl⟩ := HO.len
    have ER := hTr.run E12 hwb
    have hPL := Lib.hid PA.text.len
    have o1 := hok.at_; have o2 := hok.len; have o3 := hok.steps
    simp only [hPL.out] at o1 o2 o3
    have HOK := Lib.hid hok
    have HPA := Lib.hid PA
    have HOL := Lib.hid hol
    have hszr : w3.heap.size ≤ wr.heap.size := hTr.size
    clear hok PA PL hol
    by_cases hlt : j < k
    · obtain ⟨ch, hch⟩ := hT.idx hlt
      obtain ⟨b2, off2, Y, k2, c2, rfl, ⟨_, hne2⟩, hcell, hrs⟩ := hT.sl hch
      have hcell2 := ER.cell hcell
      have HTK := Lib.hid (take_any u ER hwb h OK.out (SlR.mono hrs (fun _ _ h => h) (fun _ h => h)) HPA.out o2 o1 hcm o3 HAH.out)
      obtain ⟨⟨⟨t2, a2, s2, u2⟩, er⟩, htk⟩ : ∃ z, takeF l ah ⟨t, a, st, u⟩ cm ch = z := ⟨_, rfl⟩
      by_cases h0 : er = 0
      · subst h0
        have inv := takeF_inv OK.out (ah := ah) (c := ch) HOK.out hcm (by rw [htk])
        rw [htk] at inv
        obtain ⟨tl, htl⟩ : ∃ tl, (t2.take a2).drop a = tl := ⟨_, rfl⟩
        have HG2 : Hid (feedP l cs = feedGo l ah (j + 1) ⟨⟨t2, a2, s2, u2⟩, cm + ch.length, out ++ [tl]⟩ (cs.drop (j + 1))) := Lib.hid (by rw [← htl]; exact HG.out.trans (feedGo_on hch htk))
        have HI := Lib.hid inv
        have HTKF := Lib.hid htk
        have HTL := Lib.hid htl
        have i1 := inv.1.at_; have i2 := inv.1.len; have i3 := inv.2.1
        simp only at i1 i2 i3
        have hk200 : k ≤ 200 := by omega
        clear inv htk hch HOK htl
        go_wp2_with (first
          | (go_at_call 98; refine HTK.out.mono ?_; rintro x w7 ⟨T7, rfl, hP7⟩; rw [HTKF.out]; obtain ⟨X2, m2, d2, P7⟩ := hP7 (by rw [HTKF.out]); rw [HTKF.out] at P7; have hl2 := P7.text.len; simp only at P7 hl2; clear hP7; have T37 := hTr.trans T7; have O7 := HO.trn hb3 T7; have hs7 : wr.heap.size ≤ w7.heap.size := T7.size)
          | (go_at_call 99; have htell := tell_any P7 (by omega) (by omega) (by omega); rw [HTL.out] at htell; refine htell.mono ?_; rintro x w8 ⟨v8, rfl, o8, P8, T8⟩; obtain ⟨AV, cV, rfl, sV⟩ := o8.sl; have T38 := T37.trans T8; have X9 := (Ext.refl w8).alloc (.cells #[.slice AV tl.length cV] 23); have O9 := (O7.trn hb3 T8).ext hb3 X9; have hs8 : w7.heap.size ≤ w8.heap.size := T8.size; have sV' : SlR rRune 1 (fun i => w7.heap.size ≤ i ∧ i < w8.heap.size) w8 AV tl.length cV tl := SlR.lt (by omega) sV; have hbase : w3.heap.size ≤ (w8.alloc (.cells #[.slice AV tl.length cV] 23)).heap.size := by simp; omega)
          | (at_builtin
             obtain ⟨ok, OW, ht1, ht2, ht3⟩ := O9.more (tk := fun i => w7.heap.size ≤ i ∧ i < w8.heap.size) (fun i hi => ⟨by omega, by simp; omega, fun g hg => by have := (HO.lt g hg).2; omega⟩)
             refine wpList_appS T_text (by omega) rfl (.tmp 39) (.tmp 42) rfl rfl OW rfl (text_one 23 sV') (fun vs x ⟨A, n, c, e, hs⟩ => ⟨A, n, c, e, hs.mono (fun _ _ h => h) ht1⟩) (one_sl _ _ _) (keep_sl (keep_rune ok)) ht3 ?_ hbase ?_
             · rw [HOL.out]; omega
             intro v10 w10 o10 g10 hat10))
        have P10 := (P8.here.ext X9).app g10 (fun e => by have := (HO.lt b e).1; omega) (fun g hg hk => by
          have h1 := (HO.lt g hg).2
          rcases hk.1 with h2 | h2
          · exact Htk.out g hg h2
          · omega)
        have O10 : OutR 23 b w3.heap.size w10 v10 (out ++ [tl]) := OutR.shut o10 ht2 ht3 g10 hat10
        have T310 := (T38.ext X9).app g10 (fun g hg => (HO.lt g hg).1)
        have Htk2 : Hid (∀ g, v10.ownBlock = some g → ¬ ((tk g ∨ wr.heap.size ≤ g) ∧ g < w8.heap.size)) := Lib.hid (fun g hg hk => by
          rcases hat10 with e | e
          · rw [e] at hg
            have h1 := (HO.lt g hg).2
            rcases hk.1 with h2 | h2
            · exact Htk.out g hg h2
            · omega
          · rw [e] at hg
            have h1 := hk.2
            simp at hg
            omega)
        go_roundw
        case rel => exact ⟨j + 1, _, X2, m2, d2, t2, a2, s2, u2, cm + ch.length, out ++ [tl], by go_num, by omega, P10, HI.out.1, HI.out.2.2, HG2, T310, by simp [HOL.out], O10, Htk2⟩
        case measure => simp [intOf]; omega
      · have HW := Lib.hid (wait_bad HR.out (by rw [hkl.out]; exact hk) (HG.out.trans (feedGo_bad hch (by rw [htk]) h0)) h0)
        have HTKF : Hid ((takeF l ah ⟨t, a, st, u⟩ cm ch).2 = er) := Lib.hid (by rw [htk])
        have hn0 : (er != 0) = true := by simpa using h0
        clear htk h0 hch HOK
        go_wp2_with (go_at_call 98; refine HTK.out.mono ?_; rintro x w7 ⟨T7, rfl, hP7⟩; rw [HTKF.out]; clear hP7; have T37 := hTr.trans T7; have r0 := T37.cell v0 hrb; have r1 := T37.cell v1 hrb; have rz := (T37.wr wa2 hrb).2; have rl := (T37.wr wa2 hrb).1)
        refine bodyPost_ret (v := .tuple #[.slice none 0 0, .agg #[.int .i64 er, .int .i64 j]]) (by simp [results, Try.results42, go_sem, r0, r1]) rfl ?_
        exact ⟨FeedV.bad HW.out.2.2.1 HW.out.2.2.2, ext_set (ext_set (Trn.run E12 hwb T37) (Nat.le_refl _) _ _) (Nat.le_refl _) _ _⟩
    · have hjk : j = k := by omega
      subst hjk
      have HEND := Lib.hid (end_any (u := u) ER hwb h OK.out HPA.out o2 o1 hcm o3)
      have hfe := HG.out.trans (feedGo_end (by rw [hkl.out]; exact Nat.le_refl _))
      have HFEE := Lib.hid hfe
      have hfl := HFE.out ⟨⟨t, a, st, u⟩, cm, out⟩
      simp only at hfl
      obtain ⟨⟨⟨t2, a2, s2, u2⟩, er⟩, hge⟩ : ∃ z, goOn l ah true (8 * cm + 40 - st) ⟨t, a, st, u⟩ = z := ⟨_, rfl⟩
      rw [hge] at hfl
      unfold EndR at HEND
      simp only at HEND
      rw [hge] at HEND
      by_cases h0 : er = 0
      · subst h0
        have inv := goOn_inv OK.out (ah := ah) (fin := true) (n := 8 * cm + 40 - st) (p := ⟨t, a, st, u⟩) HOK.out
        have hfin := goOn_fin (l := l) (ah := ah) (n := 8 * cm + 40 - st) (p := ⟨t, a, st, u⟩) (by rw [hge])
        rw [hge] at inv hfin
        have i1 := inv.1.at_; have i2 := inv.1.len; have i3 := inv.2
        simp only at i1 i2 i3 hfin
        obtain ⟨tl, htl⟩ : ∃ tl, (t2.take a2).drop a = tl := ⟨_, rfl⟩
        have htl2 : t2.drop a = tl := by rw [← htl, List.take_of_length_le (by omega)]
        have HW := Lib.hid (feed_fine HR.out (by rw [hkl.out]; exact hk) hfe hfl)
        simp only [htl2] at HW
        have HTL := Lib.hid htl
        have r0 := hTr.cell v0 hrb; have r1 := hTr.cell v1 hrb
        clear inv hge hfe hfl htl htl2 hfin HOK
        go_wp2_with (first
          | (go_at_call 100; refine HEND.out.mono ?_; rintro x w7 ⟨T7, rfl, hP7⟩; obtain ⟨X2, m2, d2, P7⟩ := hP7 rfl; have hl2 := P7.text.len; clear hP7; have T37 := hTr.trans T7; have O7 := HO.trn hb3 T7; have hs7 : wr.heap.size ≤ w7.heap.size := T7.size)
          | (go_at_call 99; have htell := tell_any P7 (by omega) (by omega) (by omega); rw [HTL.out] at htell; refine htell.mono ?_; rintro x w8 ⟨v8, rfl, o8, P8, T8⟩; obtain ⟨AV, cV, rfl, sV⟩ := o8.sl; have T38 := T37.trans T8; have X9 := (Ext.refl w8).alloc (.cells #[.slice AV tl.length cV] 23); have O9 := (O7.trn hb3 T8).ext hb3 X9; have hs8 : w7.heap.size ≤ w8.heap.size := T8.size; have sV' : SlR rRune 1 (fun i => w7.heap.size ≤ i ∧ i < w8.heap.size) w8 AV tl.length cV tl := SlR.lt (by omega) sV; have hbase : w3.heap.size ≤ (w8.alloc (.cells #[.slice AV tl.length cV] 23)).heap.size := by simp; omega)
          | (at_builtin
             obtain ⟨ok, OW, ht1, ht2, ht3⟩ := O9.more (tk := fun i => w7.heap.size ≤ i ∧ i < w8.heap.size) (fun i hi => ⟨by omega, by simp; omega, fun g hg => by have := (HO.lt g hg).2; omega⟩)
             refine wpList_appS T_text (by omega) rfl (.tmp 53) (.tmp 56) rfl rfl OW rfl (text_one 23 sV') (fun vs x ⟨A, n, c, e, hs⟩ => ⟨A, n, c, e, hs.mono (fun _ _ h => h) ht1⟩) (one_sl _ _ _) (keep_sl (keep_rune ok)) ht3 ?_ hbase ?_
             · rw [HOL.out]; omega
             intro v10 w10 o10 g10 hat10
             have T310 := (T38.ext X9).app g10 (fun g hg => (HO.lt g hg).1)
             have O10 : OutR 23 b w3.heap.size w10 v10 (out ++ [tl]) := OutR.shut o10 ht2 ht3 g10 hat10
             have z0 := T310.cell v0 hrb; have z1 := T310.cell v1 hrb; have zz := (T310.wr wa2 hrb).2; have zl := (T310.wr wa2 hrb).1))
        obtain ⟨AF, cF, rfl, sF⟩ := O10.texts
        refine bodyPost_ret (v := .tuple #[.slice AF (out ++ [tl]).length cF, .agg #[.int .i64 0, .int .i64 0]]) (by simp [results, Try.results42, go_sem, z0, z1]) rfl ?_
        refine ⟨⟨AF, cF, ?_, ?_⟩, ext_set (ext_set (Trn.run E12 hwb T310) (Nat.le_refl _) _ _) (Nat.le_refl _) _ _⟩
        · rw [HW.out.1, HW.out.2]; rfl
        · rw [HW.out.2]; exact texts_over2 sF z0 z1
      · have HW := Lib.hid (feed_bad HR.out (by rw [hkl.out]; exact hk) hfe hfl h0)
        rw [hkl.out] at HW
        have hn0 : (er != 0) = true := by simpa using h0
        clear hge hfe hfl h0
        go_wp2_with (go_at_call 100; refine HEND.out.mono ?_; rintro x w7 ⟨T7, rfl, hP7⟩; clear hP7; have T37 := hTr.trans T7; have r0 := T37.cell v0 hrb; have r1 := T37.cell v1 hrb; have rz := (T37.wr wa2 hrb).2; have rl := (T37.wr wa2 hrb).1)
        refine bodyPost_ret (v := .tuple #[.slice none 0 0, .agg #[.int .i64 er, .int .i64 j]]) (by simp [results, Try.results42, go_sem, r0, r1]) rfl ?_
        exact ⟨FeedV.bad HW.out.1 HW.out.2, ext_set (ext_set (Trn.run E12 hwb T37) (Nat.le_refl _) _ _) (Nat.le_refl _) _ _⟩

include h hT in
theorem Feed_any : Calls Try.prog 42 #[.slice A n c, .slice T k e] w fun x w' => FeedV l cs w' x ∧ Ext w w' := by
  by_cases hr : (wrongRules l).1 = 0
  · by_cases hk : 200 < k
    · have hw := wait_many hr (cs := cs) (by rw [hT.len]; exact hk)
      exact (Feed_none A n c T k e w 5 0 (by omega) (fun W E => begin_many A n c l W (h.ext E) k hr hk)).mono fun x w' hx => ⟨hx.1 ▸ FeedV.bad hw.2.2.1 hw.2.2.2, hx.2⟩
    · exact Feed_ok A n c l T k e cs w h hT hr hk
  · have hw := wait_rules (cs := cs) hr
    exact (Feed_none A n c T k e w _ _ hr (fun W E => begin_bad A n c l W (h.ext E) k hr)).mono fun x w' hx => ⟨hx.1 ▸ FeedV.bad hw.2.2.1 hw.2.2.2, hx.2⟩
end

end Go.Proofs.Ytfdkbhbnldcbmaa
