/- Walks: a player begins. -/
import Derived.Test.YtfdkbhbnldcbmaaW62
import Derived.Test.YtfdkbhbnldcbmaaW20
namespace Go.Proofs.Ytfdkbhbnldcbmaa
open Go.RowKit
set_option linter.unusedVariables false
set_option linter.unusedSimpArgs false

theorem PlAt.new (w : World) (A : Option Addr) (n c ah : Nat) (T : TypeId) {b : Nat} (hb : w.heap.size = b) :
    PlAt b bot (w.alloc (.cells #[.slice A n c, .slice none 0 0, .int .i64 0, .int .i64 0, .int .i64 0, .int .i64 0, .int .i64 ah] T)) A n c none 0 0 [] 0 0 0 0 ah := by
  subst hb
  exact ⟨SlR.nil _ _ _ _ _ _ (by unfold maxLen; omega), cell_new _ _ _ _ _ rfl, cell_new _ _ _ _ _ rfl, cell_new _ _ _ _ _ rfl, cell_new _ _ _ _ _ rfl, cell_new _ _ _ _ _ rfl, cell_new _ _ _ _ _ rfl, cell_new _ _ _ _ _ rfl, Wr.new _ _ _⟩

section
variable (A : Option Addr) (n c : Nat) (l : List Rule) (w : World) (h : Rules w A n c l) (k : Nat)
set_option maxRecDepth 100000 in
set_option maxHeartbeats 4000000 in
include h in
theorem begin_bad (hr : (wrongRules l).1 ≠ 0) :
    Calls Try.prog 97 #[.slice A n c, .int .i64 k] w fun e w' => e = .returned (.tuple #[.pointer none, .agg #[.int .i64 (wrongRules l).1, .int .i64 (wrongRules l).2]]) ∧ Ext w w' := by
  have e1 := (Ext.refl w).alloc (.cells #[.int .i64 0, .int .i64 0] 38)
  have k0 : (w.alloc (.cells #[.int .i64 0, .int .i64 0] 38)).cell? ⟨w.heap.size, 0, none⟩ = some (.int .i64 0) := by simp
  have k1 : (w.alloc (.cells #[.int .i64 0, .int .i64 0] 38)).cell? ⟨w.heap.size, 1, none⟩ = some (.int .i64 0) := by simp
  have wa := Wr.new w #[.int .i64 0, .int .i64 0] 38
  have HC := Lib.hid (Wrongs_any A n c l _ (h.ext e1))
  generalize hW1 : w.alloc (.cells #[.int .i64 0, .int .i64 0] 38) = w1 at *
  have HW1 := Lib.hid hW1; clear hW1
  have hr' : ((wrongRules l).1 != 0) = true := by simpa using hr
  clear hr
  generalize (wrongRules l).1 = p1 at *
  generalize (wrongRules l).2 = p2 at *
  go_enter Try.func97, Try.ntmps97
  go_wp2_with fail
  rw [HW1.out]
  go_wp2_with (go_at_call 31; refine HC.out.mono ?_; rintro e w2 ⟨rfl, hx2⟩; have x12 := hx2.alloc (.cells #[.int .i64 p1, .int .i64 p2] 38); have v0 := x12.cell k0; have v1 := x12.cell k1; have va := (wa.ext x12).2; have n1 := Nat.ne_of_lt (wa.lt hx2); have n3 := n1.symm)
  go_region
  go_wp2
  refine bodyPost_ret (v := .tuple #[.pointer none, .agg #[.int .i64 p1, .int .i64 p2]]) (by simp [results, Try.results97, go_sem, v0, v1]) rfl ?_
  exact ⟨rfl, by refine Ext.drew ?_; repeat (first | exact e1.trans x12 | refine ext_set ?_ (by omega) _ _)⟩

set_option maxRecDepth 100000 in
set_option maxHeartbeats 4000000 in
include h in
theorem begin_many (hr : (wrongRules l).1 = 0) (hk : 200 < k) :
    Calls Try.prog 97 #[.slice A n c, .int .i64 k] w fun e w' => e = .returned (.tuple #[.pointer none, .agg #[.int .i64 5, .int .i64 0]]) ∧ Ext w w' := by
  have e1 := (Ext.refl w).alloc (.cells #[.int .i64 0, .int .i64 0] 38)
  have k0 : (w.alloc (.cells #[.int .i64 0, .int .i64 0] 38)).cell? ⟨w.heap.size, 0, none⟩ = some (.int .i64 0) := by simp
  have k1 : (w.alloc (.cells #[.int .i64 0, .int .i64 0] 38)).cell? ⟨w.heap.size, 1, none⟩ = some (.int .i64 0) := by simp
  have wa := Wr.new w #[.int .i64 0, .int .i64 0] 38
  have HC := Lib.hid (Wrongs_any A n c l _ (h.ext e1))
  generalize hW1 : w.alloc (.cells #[.int .i64 0, .int .i64 0] 38) = w1 at *
  have HW1 := Lib.hid hW1; clear hW1
  rw [(wrongRules_zero hr).1] at HC
  have hk' : (200 : Int) < (k : Int) := by omega
  clear hr
  go_enter Try.func97, Try.ntmps97
  go_wp2_with fail
  rw [HW1.out]
  go_wp2_with (go_at_call 31; refine HC.out.mono ?_; rintro e w2 ⟨rfl, hx2⟩; have x12 := hx2.alloc (.cells #[.int .i64 0, .int .i64 0] 38); have v0 := x12.cell k0; have v1 := x12.cell k1; have va := (wa.ext x12).2; have n1 := Nat.ne_of_lt (wa.lt hx2); have n3 := n1.symm)
  refine bodyPost_ret (v := .tuple #[.pointer none, .agg #[.int .i64 5, .int .i64 0]]) (by simp [results, Try.results97, go_sem, v0, v1]) rfl ?_
  exact ⟨rfl, by repeat (first | exact e1.trans x12 | refine ext_set ?_ (by omega) _ _)⟩

set_option maxRecDepth 100000 in
set_option maxHeartbeats 4000000 in
include h in
theorem begin_ok (hr : (wrongRules l).1 = 0) (hk : ¬ 200 < k) :
    Calls Try.prog 97 #[.slice A n c, .int .i64 k] w fun e w' =>
      ∃ b, e = .returned (.tuple #[.pointer (some ⟨b, 0, none⟩), .agg #[.int .i64 0, .int .i64 0]]) ∧ w.heap.size ≤ b ∧ PlAt b bot w' A n c none 0 0 [] 0 0 0 0 (reachB l 0 0).2 ∧ Ext w w' := by
  have e1 := (Ext.refl w).alloc (.cells #[.int .i64 0, .int .i64 0] 38)
  have k0 : (w.alloc (.cells #[.int .i64 0, .int .i64 0] 38)).cell? ⟨w.heap.size, 0, none⟩ = some (.int .i64 0) := by simp
  have k1 : (w.alloc (.cells #[.int .i64 0, .int .i64 0] 38)).cell? ⟨w.heap.size, 1, none⟩ = some (.int .i64 0) := by simp
  have wa := Wr.new w #[.int .i64 0, .int .i64 0] 38
  have HC := Lib.hid (Wrongs_any A n c l _ (h.ext e1))
  generalize hW1 : w.alloc (.cells #[.int .i64 0, .int .i64 0] 38) = w1 at *
  have HW1 := Lib.hid hW1; clear hW1
  rw [(wrongRules_zero hr).1] at HC
  have hk' : decide (200 < (k : Int)) = false := by simp; omega
  have HRch := Lib.hid (fun W (e : Ext w W) => Reach_any A n c l W (h.ext e) (wrongRules_zero hr).2.2)
  clear hr
  generalize (reachB l 0 0).1 = r1 at *
  generalize (reachB l 0 0).2 = r2 at *
  go_enter Try.func97, Try.ntmps97
  go_wp2_with fail
  rw [HW1.out]
  go_wp2_with (first
    | (go_at_call 31; refine HC.out.mono ?_; rintro e w2 ⟨rfl, hx2⟩; have x12 := hx2.alloc (.cells #[.int .i64 0, .int .i64 0] 38))
    | (go_at_call 39; refine (HRch.out _ (e1.trans x12)).mono ?_; rintro e w3 ⟨rfl, hx3⟩; have x13 := (x12.trans hx3); have v0 := x13.cell k0; have v1 := x13.cell k1; have va := (wa.ext x13).2; have n0 := wa.lt x13; have n1 := Nat.ne_of_lt n0; have n3 := n1.symm))
  refine bodyPost_ret (v := .tuple #[.pointer (some ⟨w3.heap.size, 0, none⟩), .agg #[.int .i64 0, .int .i64 0]]) (by simp [results, Try.results97, go_sem, v0, v1, n0, n1, n3]) rfl ?_
  have e3 := e1.trans x13
  exact ⟨w3.heap.size, rfl, e3.size, PlAt.new _ _ _ _ _ _ (by simp [World.setCell]), (ext_set (ext_set e3 (Nat.le_refl _) _ _) (Nat.le_refl _) _ _).alloc _⟩
end

end Go.Proofs.Ytfdkbhbnldcbmaa
