/- Walk: rules are played over a text, by the document. -/
import Derived.Test.YtfdkbhbnldcbmaaW15
import Derived.Test.YtfdkbhbnldcbmaaDoc
import Derived.Deep.Cut
import Derived.Deep.CutRange
namespace Go.Proofs.Ytfdkbhbnldcbmaa
open Go.RowKit
set_option linter.unusedVariables false
set_option linter.unusedSimpArgs false

set_option maxRecDepth 100000 in
set_option maxHeartbeats 8000000 in
theorem refRun_bad (A : Option Addr) (n c : Nat) (l : List Rule) (X : Option Addr) (m d : Nat) (t : List Int) (w : World) (h : Rules w A n c l) (ht : Runes w X m d t) (hr : (checkRun l t).1 ≠ 0) :
    Calls Try.prog 37 #[.slice A n c, .slice X m d] w fun e w' => RunR l t w' e ∧ Ext w w' := by
  have e1 : Ext w ((w.alloc (.cells #[.slice none 0 0, .int .i64 0, .int .i64 0] 45)).alloc (.cells #[.int .i64 0, .int .i64 0] 38)) := ((Ext.refl w).alloc _).alloc _
  have k0 : ((w.alloc (.cells #[.slice none 0 0, .int .i64 0, .int .i64 0] 45)).alloc (.cells #[.int .i64 0, .int .i64 0] 38)).cell? ⟨w.heap.size, 0, none⟩ = some (.slice none 0 0) := by simp
  have k1 : ((w.alloc (.cells #[.slice none 0 0, .int .i64 0, .int .i64 0] 45)).alloc (.cells #[.int .i64 0, .int .i64 0] 38)).cell? ⟨w.heap.size, 1, none⟩ = some (.int .i64 0) := by simp
  have k2 : ((w.alloc (.cells #[.slice none 0 0, .int .i64 0, .int .i64 0] 45)).alloc (.cells #[.int .i64 0, .int .i64 0] 38)).cell? ⟨w.heap.size, 2, none⟩ = some (.int .i64 0) := by simp
  have k3 : ((w.alloc (.cells #[.slice none 0 0, .int .i64 0, .int .i64 0] 45)).alloc (.cells #[.int .i64 0, .int .i64 0] 38)).cell? ⟨w.heap.size + 1, 0, none⟩ = some (.int .i64 0) := by simp
  have k4 : ((w.alloc (.cells #[.slice none 0 0, .int .i64 0, .int .i64 0] 45)).alloc (.cells #[.int .i64 0, .int .i64 0] 38)).cell? ⟨w.heap.size + 1, 1, none⟩ = some (.int .i64 0) := by simp
  have wa := (Wr.new w #[.slice none 0 0, .int .i64 0, .int .i64 0] 45).ext ((Ext.refl _).alloc (.cells #[.int .i64 0, .int .i64 0] 38))
  have wb := Wr.new (w.alloc (.cells #[.slice none 0 0, .int .i64 0, .int .i64 0] 45)) #[.int .i64 0, .int .i64 0] 38
  rw [World.size_alloc] at wb
  have HC := Lib.hid (Check_any A n c l X m d t _ (h.ext e1) (ht.ext e1))
  have htl := Lib.hid ht.len
  generalize hW1 : (w.alloc (.cells #[.slice none 0 0, .int .i64 0, .int .i64 0] 45)).alloc (.cells #[.int .i64 0, .int .i64 0] 38) = w1 at *
  have HW1 := Lib.hid hW1; clear hW1
  have hr' : ((checkRun l t).1 != 0) = true := by simpa using hr
  have HO : Hid (runAll l t = ⟨[], 0, 0, (checkRun l t).1⟩) := Lib.hid (runAll_bad hr)
  have HRF : Hid (runF l t = checkRun l t) := Lib.hid (runF_bad hr)
  clear hr
  generalize hp1 : (checkRun l t).1 = p1 at *
  generalize hp2 : (checkRun l t).2 = p2 at *
  have HP : Hid (checkRun l t = (p1, p2)) := Lib.hid (by rw [← hp1, ← hp2])
  clear hp1 hp2
  go_enter Try.func37, Try.ntmps37
  go_wp2_with fail
  rw [HW1.out]
  go_wp2_with (go_at_call 33; refine HC.out.mono ?_; rintro e w2 ⟨rfl, hx2⟩; have x12 := hx2.alloc (.cells #[.int .i64 p1, .int .i64 p2] 38); have v0 := x12.cell k0; have v1 := x12.cell k1; have v2 := x12.cell k2; have v3 := x12.cell k3; have v4 := x12.cell k4; have va := (wa.ext x12).2; have vb := (wb.ext x12).2; have n1 := Nat.ne_of_lt (wa.lt hx2); have n2 := Nat.ne_of_lt (wb.lt hx2); have n3 := n1.symm; have n4 := n2.symm)
  go_region
  go_wp2
  refine bodyPost_ret (v := .tuple #[.agg #[.slice none 0 0, .int .i64 0, .int .i64 0], .agg #[.int .i64 p1, .int .i64 p2]]) (by simp [results, Try.results37, go_sem, v0, v1, v2, v3, v4]) rfl ?_
  exact ⟨RunR.bad HO.out (HRF.out.trans HP.out) rfl, by refine Ext.drew ?_; repeat (first | exact e1.trans x12 | refine ext_set ?_ (by omega) _ _)⟩

end Go.Proofs.Ytfdkbhbnldcbmaa
