/- Walk: how many runes wait, by the program. -/
import Derived.Test.YtfdkbhbnldcbmaaW63
namespace Go.Proofs.Ytfdkbhbnldcbmaa
open Go.RowKit
set_option linter.unusedVariables false
set_option linter.unusedSimpArgs false

theorem Trn.cell {b : Nat} {w w' : World} (k : Trn b w w') {r o : Nat} {u : Value} (hc : w.cell? ⟨r, o, none⟩ = some u) (hne : r ≠ b) : w'.cell? ⟨r, o, none⟩ = some u :=
  k.agree.cell (a := ⟨r, o, none⟩) hne hc
theorem Trn.size {b : Nat} {w w' : World} (k : Trn b w w') : w.heap.size ≤ w'.heap.size := (show w.grownBy w' (some b) from k).size
theorem Trn.wr {b : Nat} {w w' : World} (k : Trn b w w') {r : Nat} (h : Wr w r) (hne : r ≠ b) : Wr w' r :=
  ⟨Nat.lt_of_lt_of_le h.1 k.size, fun i => by
    rw [← h.2 i]
    exact (show w.grownBy w' (some b) from k).frozen_far ⟨r, i, none⟩ h.1 (fun e => hne (Option.some.inj e))⟩

section
variable (A : Option Addr) (n c : Nat) (l : List Rule) (T : Option Addr) (k e : Nat) (cs : List (List Int)) (w : World) (h : Rules w A n c l) (hT : Texts w T k e cs)
set_option maxRecDepth 100000 in
set_option maxHeartbeats 4000000 in
theorem Wait_none (p1 : Int) (p2 : Nat) (hp : p1 ≠ 0) (HB : ∀ W, Ext w W → Calls Try.prog 97 #[.slice A n c, .int .i64 k] W fun e w' => e = .returned (.tuple #[.pointer none, .agg #[.int .i64 p1, .int .i64 p2]]) ∧ Ext W w') :
    Calls Try.prog 44 #[.slice A n c, .slice T k e] w fun x w' => x = .returned (.tuple #[.int .i64 0, .agg #[.int .i64 p1, .int .i64 p2]]) ∧ Ext w w' := by
  have e1 := (Ext.refl w).alloc (.cells #[.int .i64 0, .int .i64 0] 38)
  have k0 : (w.alloc (.cells #[.int .i64 0, .int .i64 0] 38)).cell? ⟨w.heap.size, 0, none⟩ = some (.int .i64 0) := by simp
  have k1 : (w.alloc (.cells #[.int .i64 0, .int .i64 0] 38)).cell? ⟨w.heap.size, 1, none⟩ = some (.int .i64 0) := by simp
  have wa := Wr.new w #[.int .i64 0, .int .i64 0] 38
  have HC := Lib.hid (HB _ e1)
  generalize hW1 : w.alloc (.cells #[.int .i64 0, .int .i64 0] 38) = w1 at *
  have HW1 := Lib.hid hW1; clear hW1
  have hr' : (p1 != 0) = true := by simpa using hp
  clear hp HB
  go_enter Try.func44, Try.ntmps44
  go_wp2_with fail
  rw [HW1.out]
  go_wp2_with (go_at_call 97; refine HC.out.mono ?_; rintro e w2 ⟨rfl, hx2⟩; have x12 := hx2.alloc (.cells #[.int .i64 p1, .int .i64 p2] 38); have v0 := x12.cell k0; have v1 := x12.cell k1; have va := (wa.ext x12).2; have n1 := Nat.ne_of_lt (wa.lt hx2); have n3 := n1.symm)
  go_region
  go_wp2
  refine bodyPost_ret (v := .tuple #[.int .i64 0, .agg #[.int .i64 p1, .int .i64 p2]]) (by simp [results, Try.results44, go_sem, v0, v1]) rfl ?_
  exact ⟨rfl, by refine Ext.drew ?_; repeat (first | exact e1.trans x12 | refine ext_set ?_ (by omega) _ _)⟩

set_option maxRecDepth 100000 in
set_option maxHeartbeats 4000000 in
include h hT in
theorem Wait_ok (hr : (wrongRules l).1 = 0) (hk : ¬ 200 < k) :
    Calls Try.prog 44 #[.slice A n c, .slice T k e] w fun x w' => x = .returned (.tuple #[.int .i64 (waitN l cs), .agg #[.int .i64 (waitF l cs).1, .int .i64 (waitF l cs).2]]) ∧ Ext w w' := by
  have e1 := (Ext.refl w).alloc (.cells #[.int .i64 0, .int .i64 0] 38)
  have k0 : (w.alloc (.cells #[.int .i64 0, .int .i64 0] 38)).cell? ⟨w.heap.size, 0, none⟩ = some (.int .i64 0) := by simp
  have k1 : (w.alloc (.cells #[.int .i64 0, .int .i64 0] 38)).cell? ⟨w.heap.size, 1, none⟩ = some (.int .i64 0) := by simp
  have wa := Wr.new w #[.int .i64 0, .int .i64 0] 38
  have HC := Lib.hid (begin_ok A n c l _ (h.ext e1) k hr hk)
  have OK := Lib.hid (wrongRules_zero hr).2.2
  have HAH := Lib.hid (reachB_le l 0 0 OK.out (by omega) (by omega)).2
  have hkl := Lib.hid hT.len
  have HR := Lib.hid hr
  generalize hW1 : w.alloc (.cells #[.int .i64 0, .int .i64 0] 38) = w1 at *
  have HW1 := Lib.hid hW1; clear hW1 hr
  have hsz : w.heap.size < w1.heap.size := wa.1
  have hkc := hT.cap; have hkm := hT.max; unfold maxLen at hkm
  have HFP : Hid (feedP l cs = feedGo l (reachB l 0 0).2 0 ⟨⟨[], 0, 0, 0⟩, 0, []⟩ (cs.drop 0)) := Lib.hid rfl
  generalize (reachB l 0 0).2 = ah at *
  go_enter Try.func44, Try.ntmps44
  go_wp2_with fail
  rw [HW1.out]
  go_wp2_with (go_at_call 97; refine HC.out.mono ?_; rintro x w2 ⟨b, rfl, hb, PB, x2⟩; have x12 := x2.alloc (.cells #[.int .i64 0, .int .i64 0] 38); have v0 := x12.cell k0; have v1 := x12.cell k1; have PL := (PB.mono (tk' := top) fun _ h => h.elim).ext ((Ext.refl w2).alloc (.cells #[.int .i64 0, .int .i64 0] 38)); have E12 := e1.trans x12; have wa2 := wa.ext x12)
  have hrb : w.heap.size ≠ b := by omega
  have hwb : w.heap.size ≤ b := by omega
  generalize w2.alloc (.cells #[.int .i64 0, .int .i64 0] 38) = w3 at *
  clear k0 k1 HC PB x2 x12 wa
  go_loopw [24] (fun i wr => ∃ (j : Nat) (X : Option Addr) (m d : Nat) (t : List Int) (a st u cm : Nat) (out : List (List Int)), i = .int .i64 j ∧ j ≤ k ∧ PlAt b top wr A n c X m d t a 0 cm st ah ∧ PlayOk (8 * cm + 40) ⟨t, a, st, u⟩ ∧ cm ≤ 4000 ∧
    Hid (feedP l cs = feedGo l ah j ⟨⟨t, a, st, u⟩, cm, out⟩ (cs.drop j)) ∧ Trn b w3 wr) (fun i _ => k - (intOf i).toNat)
  case atStart => exact ⟨0, none, 0, 0, [], 0, 0, 0, 0, [], rfl, by omega, PL, ⟨Nat.le_refl _, by simp, by simp⟩, by omega, HFP, Trn.refl _ _⟩
  case round =>
    obtain ⟨j, X, m, d, t, a, st, u, cm, out, rfl, hj, PA, hok, hcm, HG, hTr⟩ := hrel
    have ER := hTr.run E12 hwb
    have hPL := Lib.hid PA.text.len
    have o1 := hok.at_; have o2 := hok.len; have o3 := hok.steps
    simp only [hPL.out] at o1 o2 o3
    have HOK := Lib.hid hok
    have HPA := Lib.hid PA
    clear hok PA PL
    by_cases hlt : j < k
    · obtain ⟨ch, hch⟩ := hT.idx hlt
      obtain ⟨b2, off2, Y, k2, c2, rfl, ⟨_, hne2⟩, hcell, hrs⟩ := hT.sl hch
      have hcell2 := ER.cell hcell
      have HTK := Lib.hid (take_any u ER hwb h OK.out (SlR.mono hrs (fun _ _ h => h) (fun _ h => h)) HPA.out o2 o1 hcm o3 HAH.out)
      obtain ⟨⟨⟨t2, a2, s2, u2⟩, er⟩, htk⟩ : ∃ z, takeF l ah ⟨t, a, st, u⟩ cm ch = z := ⟨_, rfl⟩
      by_cases h0 : er = 0
      · subst h0
        have inv := takeF_inv OK.out (ah := ah) (c := ch) HOK.out hcm (by rw [htk])
        rw [htk] at inv
        have HI := Lib.hid inv
        have HG2 : Hid (feedP l cs = feedGo l ah (j + 1) ⟨⟨t2, a2, s2, u2⟩, cm + ch.length, out ++ [toldF ⟨t, a, st, u⟩ ⟨t2, a2, s2, u2⟩]⟩ (cs.drop (j + 1))) := Lib.hid (HG.out.trans (feedGo_on hch htk))
        have HTKF := Lib.hid htk
        clear inv htk hch HOK
        go_wp2_with (go_at_call 98; refine HTK.out.mono ?_; rintro x w7 ⟨T7, rfl, hP7⟩; rw [HTKF.out]; have HP7 := Lib.hid hP7; clear hP7)
        obtain ⟨X2, m2, d2, P7⟩ := HP7.out (by rw [HTKF.out])
        rw [HTKF.out] at P7
        go_roundw
        case rel => exact ⟨j + 1, X2, m2, d2, t2, a2, s2, u2, cm + ch.length, _, by go_num, by omega, P7.mono (fun _ _ => trivial), HI.out.1, HI.out.2.2, HG2, hTr.trans T7⟩
        case measure => simp [intOf]; omega
      · have HW := Lib.hid (wait_bad HR.out (by rw [hkl.out]; exact hk) (HG.out.trans (feedGo_bad hch (by rw [htk]) h0)) h0)
        have HTKF : Hid ((takeF l ah ⟨t, a, st, u⟩ cm ch).2 = er) := Lib.hid (by rw [htk])
        have hn0 : (er != 0) = true := by simpa using h0
        clear htk h0 hch HOK
        go_wp2_with (go_at_call 98; refine HTK.out.mono ?_; rintro x w7 ⟨T7, rfl, hP7⟩; rw [HTKF.out]; clear hP7; have T37 := hTr.trans T7; have r0 := T37.cell v0 hrb; have r1 := T37.cell v1 hrb; have rz := (T37.wr wa2 hrb).2; have rl := (T37.wr wa2 hrb).1)
        refine bodyPost_ret (v := .tuple #[.int .i64 0, .agg #[.int .i64 er, .int .i64 j]]) (by simp [results, Try.results44, go_sem, r0, r1]) rfl ?_
        rw [HW.out.1, HW.out.2.1]
        exact ⟨rfl, ext_set (ext_set (Trn.run E12 hwb T37) (Nat.le_refl _) _ _) (Nat.le_refl _) _ _⟩
    · have hjk : j = k := by omega
      subst hjk
      have HFE := Lib.hid (HG.out.trans (feedGo_end (by rw [hkl.out]; exact Nat.le_refl _)))
      have HW := Lib.hid (wait_fine HR.out (by rw [hkl.out]; exact hk) HFE.out)
      have g1 := HPA.out.c1; have g2 := HPA.out.c2
      have r0 := hTr.cell v0 hrb; have r1 := hTr.cell v1 hrb; have rz := (hTr.wr wa2 hrb).2; have rl := (hTr.wr wa2 hrb).1
      have hsub : IntKind.i64.wrap ((m : Int) - a) = ((m - a : Nat) : Int) := by rw [IntWalk.i64_in _ (by omega)]; omega
      go_wp2
      have hrb' := hrb.symm
      go_region_held3 (fun w' => w'.cell? ⟨b, 1, none⟩ = some (.slice X m d) ∧ w'.cell? ⟨b, 2, none⟩ = some (.int .i64 a)) (go_keep) (fail)
      all_goals
        go_wp2
        refine bodyPost_ret (v := .tuple #[.int .i64 ((m - a : Nat) : Int), .agg #[.int .i64 0, .int .i64 0]]) (by simp [results, Try.results44, go_sem, r0, r1]) rfl ?_
        rw [HW.out.1, HW.out.2]
        exact ⟨by simp only [hPL.out]; rfl, by refine Ext.drew ?_; repeat (first | exact ER | refine ext_set ?_ (by omega) _ _)⟩

include h hT in
theorem Wait_any : Calls Try.prog 44 #[.slice A n c, .slice T k e] w fun x w' => x = .returned (.tuple #[.int .i64 (waitN l cs), .agg #[.int .i64 (waitF l cs).1, .int .i64 (waitF l cs).2]]) ∧ Ext w w' := by
  by_cases hr : (wrongRules l).1 = 0
  · by_cases hk : 200 < k
    · have hw := wait_many hr (cs := cs) (by rw [hT.len]; exact hk)
      rw [hw.1, hw.2.1]
      exact Wait_none A n c T k e w 5 0 (by omega) (fun W E => begin_many A n c l W (h.ext E) k hr hk)
    · exact Wait_ok A n c l T k e cs w h hT hr hk
  · have hw := wait_rules (cs := cs) hr
    rw [hw.1, hw.2.1]
    exact Wait_none A n c T k e w _ _ hr (fun W E => begin_bad A n c l W (h.ext E) k hr)
end

end Go.Proofs.Ytfdkbhbnldcbmaa
