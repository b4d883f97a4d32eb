/- Walk: rules are played over a text. -/
import Derived.Test.YtfdkbhbnldcbmaaW15
import Derived.Test.YtfdkbhbnldcbmaaPlay
namespace Go.Proofs.Ytfdkbhbnldcbmaa
open Go.RowKit
set_option linter.unusedVariables false
set_option linter.unusedSimpArgs false

theorem Limit_any (m : Nat) (w : World) (hm : m ≤ 4000) : Calls Try.prog 92 #[.int .i64 m] w fun e w' => e = .returned (.int .i64 ((8 * m + 40 : Nat) : Int)) ∧ w = w' := by
  go_enter Try.func92, Try.ntmps92
  go_wp2
  go_ret
  exact ⟨by simp, rfl⟩

set_option maxRecDepth 100000 in
set_option maxHeartbeats 4000000 in
theorem Run_rules (A : Option Addr) (n c : Nat) (l : List Rule) (X : Option Addr) (m d : Nat) (t : List Int) (w : World) (h : Rules w A n c l) (ht : Runes w X m d t) (hr : (wrongRules l).1 ≠ 0) :
    Calls Try.prog 36 #[.slice A n c, .slice X m d] w fun e w' => RunR l t w' e ∧ Ext w w' := by
  have e1 : Ext w ((w.alloc (.cells #[.slice none 0 0, .int .i64 0, .int .i64 0] 45)).alloc (.cells #[.int .i64 0, .int .i64 0] 38)) := ((Ext.refl w).alloc _).alloc _
  have k0 : ((w.alloc (.cells #[.slice none 0 0, .int .i64 0, .int .i64 0] 45)).alloc (.cells #[.int .i64 0, .int .i64 0] 38)).cell? ⟨w.heap.size, 0, none⟩ = some (.slice none 0 0) := by simp
  have k1 : ((w.alloc (.cells #[.slice none 0 0, .int .i64 0, .int .i64 0] 45)).alloc (.cells #[.int .i64 0, .int .i64 0] 38)).cell? ⟨w.heap.size, 1, none⟩ = some (.int .i64 0) := by simp
  have k2 : ((w.alloc (.cells #[.slice none 0 0, .int .i64 0, .int .i64 0] 45)).alloc (.cells #[.int .i64 0, .int .i64 0] 38)).cell? ⟨w.heap.size, 2, none⟩ = some (.int .i64 0) := by simp
  have k3 : ((w.alloc (.cells #[.slice none 0 0, .int .i64 0, .int .i64 0] 45)).alloc (.cells #[.int .i64 0, .int .i64 0] 38)).cell? ⟨w.heap.size + 1, 0, none⟩ = some (.int .i64 0) := by simp
  have k4 : ((w.alloc (.cells #[.slice none 0 0, .int .i64 0, .int .i64 0] 45)).alloc (.cells #[.int .i64 0, .int .i64 0] 38)).cell? ⟨w.heap.size + 1, 1, none⟩ = some (.int .i64 0) := by simp
  have wa := (Wr.new w #[.slice none 0 0, .int .i64 0, .int .i64 0] 45).ext ((Ext.refl _).alloc (.cells #[.int .i64 0, .int .i64 0] 38))
  have wb := Wr.new (w.alloc (.cells #[.slice none 0 0, .int .i64 0, .int .i64 0] 45)) #[.int .i64 0, .int .i64 0] 38
  rw [World.size_alloc] at wb
  have HC := Lib.hid (Wrongs_any A n c l _ (h.ext e1))
  have HT := Lib.hid (fun W (e : Ext w W) => Text_any X m d t W (ht.ext e))
  have HF := Lib.hid (fun W (e : Ext w W) => First_any A n c l)
  have HCl := Lib.hid (fun W (e : Ext w W) => Clone_rune one_rune (keep_rune bot) X m d t W (ht.ext e))
  have htl := Lib.hid ht.len
  generalize hW1 : (w.alloc (.cells #[.slice none 0 0, .int .i64 0, .int .i64 0] 45)).alloc (.cells #[.int .i64 0, .int .i64 0] 38) = w1 at *
  have HW1 := Lib.hid hW1; clear hW1
  have hr' : ((wrongRules l).1 != 0) = true := by simpa using hr
  have HK := checkRun_rules (t := t) hr
  have HO : Hid (runAll l t = ⟨[], 0, 0, (wrongRules l).1⟩) := Lib.hid (by rw [runAll_bad (by rw [HK]; exact hr), HK])
  have HRF : Hid (runF l t = wrongRules l) := Lib.hid (by rw [runF_bad (by rw [HK]; exact hr), HK])
  clear hr HK
  generalize hp1 : (wrongRules l).1 = p1 at *
  generalize hp2 : (wrongRules l).2 = p2 at *
  have HP : Hid (wrongRules l = (p1, p2)) := Lib.hid (by rw [← hp1, ← hp2])
  clear hp1 hp2
  go_enter Try.func36, Try.ntmps36
  go_wp2_with fail
  rw [HW1.out]
  go_wp2_with (go_at_call 31; refine HC.out.mono ?_; rintro e w2 ⟨rfl, hx2⟩; have x12 := hx2.alloc (.cells #[.int .i64 p1, .int .i64 p2] 38); have v0 := x12.cell k0; have v1 := x12.cell k1; have v2 := x12.cell k2; have v3 := x12.cell k3; have v4 := x12.cell k4; have va := (wa.ext x12).2; have vb := (wb.ext x12).2; have n1 := Nat.ne_of_lt (wa.lt hx2); have n2 := Nat.ne_of_lt (wb.lt hx2); have n3 := n1.symm; have n4 := n2.symm)
  go_region
  go_wp2
  refine bodyPost_ret (v := .tuple #[.agg #[.slice none 0 0, .int .i64 0, .int .i64 0], .agg #[.int .i64 p1, .int .i64 p2]]) (by simp [results, Try.results36, go_sem, v0, v1, v2, v3, v4]) rfl ?_
  exact ⟨RunR.bad HO.out (HRF.out.trans HP.out) rfl, by refine Ext.drew ?_; repeat (first | exact e1.trans x12 | refine ext_set ?_ (by omega) _ _)⟩

set_option maxRecDepth 100000 in
set_option maxHeartbeats 4000000 in
theorem Run_text (A : Option Addr) (n c : Nat) (l : List Rule) (X : Option Addr) (m d : Nat) (t : List Int) (w : World) (h : Rules w A n c l) (ht : Runes w X m d t) (hr : (wrongRules l).1 = 0) (hx : wrongText t ≠ 0) :
    Calls Try.prog 36 #[.slice A n c, .slice X m d] w fun e w' => RunR l t w' e ∧ Ext w w' := by
  have e1 : Ext w ((w.alloc (.cells #[.slice none 0 0, .int .i64 0, .int .i64 0] 45)).alloc (.cells #[.int .i64 0, .int .i64 0] 38)) := ((Ext.refl w).alloc _).alloc _
  have k0 : ((w.alloc (.cells #[.slice none 0 0, .int .i64 0, .int .i64 0] 45)).alloc (.cells #[.int .i64 0, .int .i64 0] 38)).cell? ⟨w.heap.size, 0, none⟩ = some (.slice none 0 0) := by simp
  have k1 : ((w.alloc (.cells #[.slice none 0 0, .int .i64 0, .int .i64 0] 45)).alloc (.cells #[.int .i64 0, .int .i64 0] 38)).cell? ⟨w.heap.size, 1, none⟩ = some (.int .i64 0) := by simp
  have k2 : ((w.alloc (.cells #[.slice none 0 0, .int .i64 0, .int .i64 0] 45)).alloc (.cells #[.int .i64 0, .int .i64 0] 38)).cell? ⟨w.heap.size, 2, none⟩ = some (.int .i64 0) := by simp
  have k3 : ((w.alloc (.cells #[.slice none 0 0, .int .i64 0, .int .i64 0] 45)).alloc (.cells #[.int .i64 0, .int .i64 0] 38)).cell? ⟨w.heap.size + 1, 0, none⟩ = some (.int .i64 0) := by simp
  have k4 : ((w.alloc (.cells #[.slice none 0 0, .int .i64 0, .int .i64 0] 45)).alloc (.cells #[.int .i64 0, .int .i64 0] 38)).cell? ⟨w.heap.size + 1, 1, none⟩ = some (.int .i64 0) := by simp
  have wa := (Wr.new w #[.slice none 0 0, .int .i64 0, .int .i64 0] 45).ext ((Ext.refl _).alloc (.cells #[.int .i64 0, .int .i64 0] 38))
  have wb := Wr.new (w.alloc (.cells #[.slice none 0 0, .int .i64 0, .int .i64 0] 45)) #[.int .i64 0, .int .i64 0] 38
  rw [World.size_alloc] at wb
  have HC := Lib.hid (Wrongs_any A n c l _ (h.ext e1))
  have HT := Lib.hid (fun W (e : Ext w W) => Text_any X m d t W (ht.ext e))
  have HF := Lib.hid (fun W (e : Ext w W) => First_any A n c l)
  have HCl := Lib.hid (fun W (e : Ext w W) => Clone_rune one_rune (keep_rune bot) X m d t W (ht.ext e))
  have htl := Lib.hid ht.len
  generalize hW1 : (w.alloc (.cells #[.slice none 0 0, .int .i64 0, .int .i64 0] 45)).alloc (.cells #[.int .i64 0, .int .i64 0] 38) = w1 at *
  have HW1 := Lib.hid hW1; clear hW1
  obtain ⟨hr0, _, hok⟩ := wrongRules_zero hr
  have HR := Lib.hid hr0
  have HK : Hid (checkRun l t = (wrongText t, 0)) := Lib.hid (checkRun_text hr)
  have OK := Lib.hid hok
  clear hr hr0 hok
  have hx' : (wrongText t != 0) = true := by simpa using hx
  have HO : Hid (runAll l t = ⟨[], 0, 0, wrongText t⟩) := Lib.hid (by rw [runAll_bad (by rw [HK.out]; exact hx), HK.out])
  have HRF : Hid (runF l t = (wrongText t, 0)) := Lib.hid (by rw [runF_bad (by rw [HK.out]; exact hx), HK.out])
  clear hx
  go_enter Try.func36, Try.ntmps36
  go_wp2_with fail
  rw [HW1.out]
  go_wp2_with (first
    | (go_at_call 31; refine HC.out.mono ?_; rintro e w2 ⟨rfl, hx2⟩; rw [HR.out])
    | (go_at_call 24; refine (HT.out _ ((e1.trans hx2).alloc _)).mono ?_; rintro e w3 ⟨rfl, hx3⟩; have x13 := (hx2.alloc _).trans hx3; have v0 := x13.cell k0; have v1 := x13.cell k1; have v2 := x13.cell k2; have v3 := x13.cell k3; have v4 := x13.cell k4; have va := (wa.ext x13).2; have vb := (wb.ext x13).2))
  refine bodyPost_ret (v := .tuple #[.agg #[.slice none 0 0, .int .i64 0, .int .i64 0], .agg #[.int .i64 (wrongText t), .int .i64 0]]) (by simp [results, Try.results36, go_sem, v0, v1, v2, v3, v4]) rfl ?_
  exact ⟨RunR.bad HO.out HRF.out rfl, by repeat (first | exact e1.trans x13 | refine ext_set ?_ (by omega) _ _)⟩

end Go.Proofs.Ytfdkbhbnldcbmaa
