/- Walks: which rule matches; what is wrong with rules and a text. -/
import Derived.Test.YtfdkbhbnldcbmaaW13
import Derived.Test.YtfdkbhbnldcbmaaW14
namespace Go.Proofs.Ytfdkbhbnldcbmaa
open Go.RowKit
set_option linter.unusedVariables false
set_option linter.unusedSimpArgs false

theorem which_val {v x : Int} {a b : Int} {k : Nat} {p : Int × Nat} (hv : x = v) (h : p = (a, k)) (hb : b = k) :
    Ending.returned (.tuple #[.int .i64 v, .agg #[.int .i64 a, .int .i64 b]]) = .returned (.tuple #[.int .i64 x, .agg #[.int .i64 p.1, .int .i64 p.2]]) := by rw [h, hb, hv]

set_option maxRecDepth 100000 in
set_option maxHeartbeats 2000000 in
theorem Which_any (A : Option Addr) (n c : Nat) (l : List Rule) (B : Option Addr) (m d : Nat) (t : List Int) (a : Int) (w : World) (h : Rules w A n c l) (ht : Runes w B m d t) :
    Calls Try.prog 34 #[.slice A n c, .slice B m d, .int .i64 a] w
      fun e w' => e = .returned (.tuple #[.int .i64 (whichV l t a), .agg #[.int .i64 (whichF l t a).1, .int .i64 (whichF l t a).2]]) ∧ Ext w w' := by
  have e1 := (Ext.refl w).alloc (.cells #[.int .i64 0, .int .i64 0] 38)
  have k0 : (w.alloc (.cells #[.int .i64 0, .int .i64 0] 38)).cell? ⟨w.heap.size, 0, none⟩ = some (.int .i64 0) := by simp
  have k1 : (w.alloc (.cells #[.int .i64 0, .int .i64 0] 38)).cell? ⟨w.heap.size, 1, none⟩ = some (.int .i64 0) := by simp
  have hs0 : w.heap.size < (w.alloc (.cells #[.int .i64 0, .int .i64 0] 38)).heap.size := by simp
  have HC := Lib.hid (Wrongs_any A n c l _ (h.ext e1))
  have HT := Lib.hid (fun W (e : Ext w W) => Text_any B m d t W (ht.ext e))
  have HF := Lib.hid (fun W (e : Ext w W) (q : Nat) => First_any A n c l B m d t q W (h.ext e) (ht.ext e))
  have htl := Lib.hid ht.len
  have wr1 := Wr.new w #[.int .i64 0, .int .i64 0] 38
  generalize hW1 : w.alloc (.cells #[.int .i64 0, .int .i64 0] 38) = w1 at *
  have HW1 := Lib.hid hW1; clear hW1
  by_cases hr : (wrongRules l).1 = 0
  · obtain ⟨hr0, _, hok⟩ := wrongRules_zero hr
    have HR := Lib.hid hr0
    have HK : Hid (checkRun l t = (wrongText t, 0)) := Lib.hid (checkRun_text hr)
    have OK := Lib.hid hok
    clear hr hr0 hok
    by_cases hx : wrongText t = 0
    · have HX := Lib.hid hx
      have hm := (text_of hx).1; rw [htl.out] at hm
      have HCK : Hid ((checkRun l t).1 = 0) := Lib.hid (by rw [HK.out]; exact hx)
      clear hx
      by_cases ha : a < 0 ∨ (m : Int) < a
      · have HF1 : Hid (whichF l t a = (3, 0)) := Lib.hid (whichF_far HCK.out (by rw [htl.out]; exact ha))
        have HV1 : Hid (whichV l t a = 0) := Lib.hid (whichV_bad (by rw [HF1.out]; simp))
        rcases ha with ha | ha
        · go_enter Try.func34, Try.ntmps34
          go_wp2_with fail
          rw [HW1.out]
          go_wp2_with (first
            | (go_at_call 31; refine HC.out.mono ?_; rintro e w2 ⟨rfl, hx2⟩; rw [HR.out])
            | (go_at_call 24; refine (HT.out _ ((e1.trans hx2).alloc _)).mono ?_; rintro e w3 ⟨rfl, hx3⟩; rw [HX.out]; have x13 := (hx2.alloc _).trans hx3; have v0 := x13.cell k0; have v1 := x13.cell k1; have vz := (wr1.ext x13).2))
          refine bodyPost_ret (v := .tuple #[.int .i64 0, .agg #[.int .i64 3, .int .i64 0]]) (by simp [results, Try.results34, go_sem, v0, v1]) rfl ?_
          exact ⟨which_val HV1.out HF1.out rfl, ext_set (ext_set (e1.trans x13) (Nat.le_refl _) _ _) (Nat.le_refl _) _ _⟩
        · have ha0 : decide (a < 0) = false := by simp; omega
          go_enter Try.func34, Try.ntmps34
          go_wp2_with fail
          rw [HW1.out]
          go_wp2_with (first
            | (go_at_call 31; refine HC.out.mono ?_; rintro e w2 ⟨rfl, hx2⟩; rw [HR.out])
            | (go_at_call 24; refine (HT.out _ ((e1.trans hx2).alloc _)).mono ?_; rintro e w3 ⟨rfl, hx3⟩; rw [HX.out]; have x13 := (hx2.alloc _).trans hx3; have v0 := x13.cell k0; have v1 := x13.cell k1; have vz := (wr1.ext x13).2))
          refine bodyPost_ret (v := .tuple #[.int .i64 0, .agg #[.int .i64 3, .int .i64 0]]) (by simp [results, Try.results34, go_sem, v0, v1]) rfl ?_
          exact ⟨which_val HV1.out HF1.out rfl, ext_set (ext_set (e1.trans x13) (Nat.le_refl _) _ _) (Nat.le_refl _) _ _⟩
      · have HF1 : Hid (whichF l t a = (0, 0)) := Lib.hid (whichF_in HCK.out (by rw [htl.out]; exact ha))
        have HV1 : Hid (whichV l t a = first l t a) := Lib.hid (whichV_in (by rw [HF1.out]))
        obtain ⟨q, rfl⟩ := Int.eq_ofNat_of_zero_le (by omega : 0 ≤ a)
        have hq : q ≤ m := by omega
        have hq1 : decide ((m : Int) < (q : Int)) = false := by simp; omega
        clear ha
        go_enter Try.func34, Try.ntmps34
        go_wp2_with fail
        rw [HW1.out]
        go_wp2_with (first
          | (go_at_call 31; refine HC.out.mono ?_; rintro e w2 ⟨rfl, hx2⟩; rw [HR.out])
          | (go_at_call 24; refine (HT.out _ ((e1.trans hx2).alloc _)).mono ?_; rintro e w3 ⟨rfl, hx3⟩; rw [HX.out]; have x13 := (hx2.alloc _).trans hx3)
          | (go_at_call 90; refine (HF.out _ (e1.trans x13) q hm hq OK.out).mono ?_; rintro e w4 ⟨rfl, hx4⟩; have x14 := x13.trans hx4; have v0 := x14.cell k0; have v1 := x14.cell k1; have vz := (wr1.ext x14).2))
        refine bodyPost_ret (v := .tuple #[.int .i64 (first l t q), .agg #[.int .i64 0, .int .i64 0]]) (by simp [results, Try.results34, go_sem, v0, v1]) rfl ?_
        exact ⟨which_val HV1.out HF1.out rfl, ext_set (ext_set (e1.trans x14) (Nat.le_refl _) _ _) (Nat.le_refl _) _ _⟩
    · have hx' : (wrongText t != 0) = true := by simpa using hx
      have HF1 : Hid (whichF l t a = (wrongText t, 0)) := Lib.hid (by rw [whichF_bad (by rw [HK.out]; exact hx), HK.out])
      have HV1 : Hid (whichV l t a = 0) := Lib.hid (whichV_bad (by rw [HF1.out]; exact hx))
      clear hx
      go_enter Try.func34, Try.ntmps34
      go_wp2_with fail
      rw [HW1.out]
      go_wp2_with (first
        | (go_at_call 31; refine HC.out.mono ?_; rintro e w2 ⟨rfl, hx2⟩; rw [HR.out])
        | (go_at_call 24; refine (HT.out _ ((e1.trans hx2).alloc _)).mono ?_; rintro e w3 ⟨rfl, hx3⟩; have x13 := (hx2.alloc _).trans hx3; have v0 := x13.cell k0; have v1 := x13.cell k1; have vz := (wr1.ext x13).2))
      refine bodyPost_ret (v := .tuple #[.int .i64 0, .agg #[.int .i64 (wrongText t), .int .i64 0]]) (by simp [results, Try.results34, go_sem, v0, v1]) rfl ?_
      exact ⟨which_val HV1.out HF1.out rfl, ext_set (ext_set (e1.trans x13) (Nat.le_refl _) _ _) (Nat.le_refl _) _ _⟩
  · have hr' : ((wrongRules l).1 != 0) = true := by simpa using hr
    have HK := checkRun_rules (t := t) hr
    have HF1 : Hid (whichF l t a = wrongRules l) := Lib.hid (by rw [whichF_bad (by rw [HK]; exact hr), HK])
    have HV1 : Hid (whichV l t a = 0) := Lib.hid (whichV_bad (by rw [HF1.out]; exact hr))
    clear hr HK
    generalize hp1 : (wrongRules l).1 = p1 at *
    generalize hp2 : (wrongRules l).2 = p2 at *
    have HP : Hid (wrongRules l = (p1, p2)) := Lib.hid (by rw [← hp1, ← hp2])
    clear hp1 hp2
    go_enter Try.func34, Try.ntmps34
    go_wp2_with fail
    rw [HW1.out]
    go_wp2_with (go_at_call 31; refine HC.out.mono ?_; rintro e w2 ⟨rfl, hx2⟩; have x12 := hx2.alloc (.cells #[.int .i64 p1, .int .i64 p2] 38); have v0 := x12.cell k0; have v1 := x12.cell k1; have vz := (wr1.ext x12).2)
    go_region
    go_wp2
    refine bodyPost_ret (v := .tuple #[.int .i64 0, .agg #[.int .i64 p1, .int .i64 p2]]) (by simp [results, Try.results34, go_sem, v0, v1]) rfl ?_
    exact ⟨which_val HV1.out (HF1.out.trans HP.out) rfl, (ext_set (ext_set (e1.trans x12) (Nat.le_refl _) _ _) (Nat.le_refl _) _ _).drew⟩

set_option maxRecDepth 100000 in
set_option maxHeartbeats 2000000 in
theorem Check_any (A : Option Addr) (n c : Nat) (l : List Rule) (B : Option Addr) (m d : Nat) (t : List Int) (w : World) (h : Rules w A n c l) (ht : Runes w B m d t) :
    Calls Try.prog 33 #[.slice A n c, .slice B m d] w
      fun e w' => e = .returned (.agg #[.int .i64 (checkRun l t).1, .int .i64 (checkRun l t).2]) ∧ Ext w w' := by
  have e1 := (Ext.refl w).alloc (.cells #[.int .i64 0, .int .i64 0] 38)
  have k0 : (w.alloc (.cells #[.int .i64 0, .int .i64 0] 38)).cell? ⟨w.heap.size, 0, none⟩ = some (.int .i64 0) := by simp
  have k1 : (w.alloc (.cells #[.int .i64 0, .int .i64 0] 38)).cell? ⟨w.heap.size, 1, none⟩ = some (.int .i64 0) := by simp
  have hs0 : w.heap.size < (w.alloc (.cells #[.int .i64 0, .int .i64 0] 38)).heap.size := by simp
  have HC := Lib.hid (refWrongs_any A n c l _ (h.ext e1))
  have HT := Lib.hid (fun W (e : Ext w W) => refText_any B m d t W (ht.ext e))
  have wr1 := Wr.new w #[.int .i64 0, .int .i64 0] 38
  generalize hW1 : w.alloc (.cells #[.int .i64 0, .int .i64 0] 38) = w1 at *
  have HW1 := Lib.hid hW1; clear hW1
  by_cases hr : (wrongRules l).1 = 0
  · have HR := Lib.hid (wrongRules_zero hr).1
    have HK : Hid (checkRun l t = (wrongText t, 0)) := Lib.hid (checkRun_text hr)
    clear hr
    go_enter Try.func33, Try.ntmps33
    go_wp2_with fail
    rw [HW1.out]
    go_wp2_with (first
      | (go_at_call 32; refine HC.out.mono ?_; rintro e w2 ⟨rfl, hx2⟩; rw [HR.out]; have x13 := hx2.alloc (.cells #[.int .i64 0, .int .i64 0] 38); have v0 := x13.cell k0; have v1 := x13.cell k1; have vz := (wr1.ext x13).2)
      | (go_at_call 25; refine (HT.out _ (e1.trans x13)).mono ?_; rintro e w3 ⟨rfl, rfl⟩))
    refine bodyPost_ret (v := .agg #[.int .i64 (wrongText t), .int .i64 0]) (by simp [results, Try.results33, go_sem, v0, v1]) rfl ?_
    exact ⟨fault_val HK.out rfl, ext_set (ext_set (e1.trans x13) (Nat.le_refl _) _ _) (Nat.le_refl _) _ _⟩
  · have hr' : ((wrongRules l).1 != 0) = true := by simpa using hr
    have HK := Lib.hid (checkRun_rules (t := t) hr)
    clear hr
    generalize hp1 : (wrongRules l).1 = p1 at *
    generalize hp2 : (wrongRules l).2 = p2 at *
    have HP : Hid (wrongRules l = (p1, p2)) := Lib.hid (by rw [← hp1, ← hp2])
    clear hp1 hp2
    go_enter Try.func33, Try.ntmps33
    go_wp2_with fail
    rw [HW1.out]
    go_wp2_with (go_at_call 32; refine HC.out.mono ?_; rintro e w2 ⟨rfl, hx2⟩; have x12 := hx2.alloc (.cells #[.int .i64 p1, .int .i64 p2] 38); have v0 := x12.cell k0; have v1 := x12.cell k1; have vz := (wr1.ext x12).2)
    refine bodyPost_ret (v := .agg #[.int .i64 p1, .int .i64 p2]) (by simp [results, Try.results33, go_sem, v0, v1]) rfl ?_
    exact ⟨fault_val (HK.out.trans HP.out) rfl, ext_set (ext_set (e1.trans x12) (Nat.le_refl _) _ _) (Nat.le_refl _) _ _⟩

end Go.Proofs.Ytfdkbhbnldcbmaa
