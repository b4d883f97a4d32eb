/- Walk: whether rule i masks rule j. -/
import Derived.Test.YtfdkbhbnldcbmaaW22
namespace Go.Proofs.Ytfdkbhbnldcbmaa
open Go.RowKit
set_option linter.unusedVariables false
set_option linter.unusedSimpArgs false

section
variable (A : Option Addr) (n c : Nat) (l : List Rule) (i j : Int) (w : World) (h : Rules w A n c l)

set_option maxRecDepth 100000 in
set_option maxHeartbeats 800000 in
include h in
theorem Masks_bad (hr : (wrongRules l).1 ≠ 0) :
    Calls Try.prog 40 #[.slice A n c, .int .i64 i, .int .i64 j] w fun e w' => e = .returned (.tuple #[.bool false, .agg #[.int .i64 (wrongRules l).1, .int .i64 (wrongRules l).2]]) ∧ Ext w w' := by
  have e1 := (Ext.refl w).alloc (.cells #[.int .i64 0, .int .i64 0] 38)
  have k0 : (w.alloc (.cells #[.int .i64 0, .int .i64 0] 38)).cell? ⟨w.heap.size, 0, none⟩ = some (.int .i64 0) := by simp
  have k1 : (w.alloc (.cells #[.int .i64 0, .int .i64 0] 38)).cell? ⟨w.heap.size, 1, none⟩ = some (.int .i64 0) := by simp
  have wb := Wr.new w #[.int .i64 0, .int .i64 0] 38
  have HC := Lib.hid (Wrongs_any A n c l _ (h.ext e1))
  have hr' : ((wrongRules l).1 != 0) = true := by simpa using hr
  clear hr
  generalize (wrongRules l).1 = p1 at *
  generalize (wrongRules l).2 = p2 at *
  go_enter Try.func40, Try.ntmps40
  go_wp2_with fail
  generalize w.alloc (.cells #[.int .i64 0, .int .i64 0] 38) = w1 at *
  go_wp2_with (go_at_call 31; refine HC.out.mono ?_; rintro e w2 ⟨rfl, hx2⟩; have v0 := hx2.cell k0; have v1 := hx2.cell k1; have vz := (wb.ext hx2).2; have n1 := wb.lt hx2)
  go_region
  go_wp2
  refine bodyPost_ret (v := .tuple #[.bool false, .agg #[.int .i64 p1, .int .i64 p2]]) (by simp [results, Try.results40, go_sem, v0, v1, n1]) rfl ?_
  exact ⟨rfl, ((ext_set (ext_set (e1.trans hx2) (Nat.le_refl _) _ _) (Nat.le_refl _) _ _).alloc _).drew⟩

set_option maxRecDepth 100000 in
set_option maxHeartbeats 800000 in
include h in
theorem Masks_far (hr : (wrongRules l).1 = 0) (hf : i < 0 ∨ j < 0 ∨ (n : Int) ≤ i ∨ (n : Int) ≤ j) :
    Calls Try.prog 40 #[.slice A n c, .int .i64 i, .int .i64 j] w fun e w' => e = .returned (.tuple #[.bool false, .agg #[.int .i64 3, .int .i64 0]]) ∧ Ext w w' := by
  have HR := Lib.hid (wrongRules_zero hr).1
  have e1 := (Ext.refl w).alloc (.cells #[.int .i64 0, .int .i64 0] 38)
  have k0 : (w.alloc (.cells #[.int .i64 0, .int .i64 0] 38)).cell? ⟨w.heap.size, 0, none⟩ = some (.int .i64 0) := by simp
  have k1 : (w.alloc (.cells #[.int .i64 0, .int .i64 0] 38)).cell? ⟨w.heap.size, 1, none⟩ = some (.int .i64 0) := by simp
  have wb := Wr.new w #[.int .i64 0, .int .i64 0] 38
  have HC := Lib.hid (Wrongs_any A n c l _ (h.ext e1))
  have hf' : decide (i < 0) = true ∨ (decide (i < 0) = false ∧ decide (j < 0) = true) ∨ (decide (i < 0) = false ∧ decide (j < 0) = false ∧ decide ((n : Int) ≤ i) = true) ∨ (decide (i < 0) = false ∧ decide (j < 0) = false ∧ decide ((n : Int) ≤ i) = false ∧ decide ((n : Int) ≤ j) = true) := by
    by_cases h1 : i < 0
    · exact .inl (by simpa using h1)
    · by_cases h2 : j < 0
      · exact .inr (.inl ⟨by simpa using h1, by simpa using h2⟩)
      · by_cases h3 : (n : Int) ≤ i
        · exact .inr (.inr (.inl ⟨by simpa using h1, by simpa using h2, by simpa using h3⟩))
        · exact .inr (.inr (.inr ⟨by simpa using h1, by simpa using h2, by simpa using h3, by simp; omega⟩))
  clear hf hr
  rcases hf' with h1 | ⟨h1, h2⟩ | ⟨h1, h2, h3⟩ | ⟨h1, h2, h3, h4⟩
  all_goals
    go_enter Try.func40, Try.ntmps40
    go_wp2_with fail
    generalize w.alloc (.cells #[.int .i64 0, .int .i64 0] 38) = w1 at *
    go_wp2_with (go_at_call 31; refine HC.out.mono ?_; rintro e w2 ⟨rfl, hx2⟩; rw [HR.out]; have v0 := hx2.cell k0; have v1 := hx2.cell k1; have vz := (wb.ext hx2).2; have n1 := wb.lt hx2)
    refine bodyPost_ret (v := .tuple #[.bool false, .agg #[.int .i64 3, .int .i64 0]]) (by simp [results, Try.results40, go_sem, v0, v1, n1]) rfl ?_
    exact ⟨rfl, by repeat (first | exact e1.trans hx2 | refine ext_set ?_ (Nat.le_refl _) _ _ | refine Ext.alloc ?_ _)⟩

set_option maxRecDepth 100000 in
set_option maxHeartbeats 1600000 in
include h in
theorem Masks_in (hr : (wrongRules l).1 = 0) (x y : Nat) (a b : Rule) (hx : l[x]? = some a) (hy : l[y]? = some b) :
    Calls Try.prog 40 #[.slice A n c, .int .i64 x, .int .i64 y] w fun e w' => e = .returned (.tuple #[.bool (masksB a b), .agg #[.int .i64 0, .int .i64 0]]) ∧ Ext w w' := by
  obtain ⟨hr0, _, hok⟩ := wrongRules_zero hr
  have HR := Lib.hid hr0
  have oka := hok a (List.mem_of_getElem? hx)
  have okb := hok b (List.mem_of_getElem? hy)
  have hm := h.max; unfold maxLen at hm
  have hcap := h.cap
  have hxn : x < n := by rw [← h.len]; exact lt_of_get hx
  have hyn : y < n := by rw [← h.len]; exact lt_of_get hy
  have e1 := (Ext.refl w).alloc (.cells #[.int .i64 0, .int .i64 0] 38)
  have k0 : (w.alloc (.cells #[.int .i64 0, .int .i64 0] 38)).cell? ⟨w.heap.size, 0, none⟩ = some (.int .i64 0) := by simp
  have k1 : (w.alloc (.cells #[.int .i64 0, .int .i64 0] 38)).cell? ⟨w.heap.size, 1, none⟩ = some (.int .i64 0) := by simp
  have wb := Wr.new w #[.int .i64 0, .int .i64 0] 38
  have HC := Lib.hid (Wrongs_any A n c l _ (h.ext e1))
  have HM : Hid (∀ W, Ext w W → ∀ b1 o1, A = some ⟨b1, o1, none⟩ → Calls Try.prog 94 #[.pointer (some ⟨b1, o1 + x * 7, none⟩), .pointer (some ⟨b1, o1 + y * 7, none⟩)] W fun e w' => e = .returned (.bool (masksB a b)) ∧ Ext W w') := Lib.hid (by
    intro W e b1 o1 hA
    subst hA
    obtain ⟨b1', o1', s, f, A1, n1, c1, A2, n2, c2, A3, n3, c3, A4, n4, c4, q, e1, _, hv, k0, k1, k2, k3, k4, k5, k6⟩ := (h.ext e).rule hx
    cases e1
    obtain ⟨b2', o2', s', f', A1', n1', c1', A2', n2', c2', A3', n3', c3', A4', n4', c4', q', e2, _, hv', k0', k1', k2', k3', k4', k5', k6'⟩ := (h.ext e).rule hy
    cases e2
    exact masks_any b1 (o1 + x * 7) b1 (o1 + y * 7) a b W ⟨s, f, A1, n1, c1, A2, n2, c2, A3, n3, c3, A4, n4, c4, q, ⟨k0, k1, k2, k3, k4, k5, k6⟩, hv⟩ ⟨s', f', A1', n1', c1', A2', n2', c2', A3', n3', c3', A4', n4', c4', q', ⟨k0', k1', k2', k3', k4', k5', k6'⟩, hv'⟩ oka okb)
  obtain ⟨b1, o1, _, _, _, _, _, _, _, _, _, _, _, _, _, _, _, rfl, _⟩ := h.rule hx
  clear hr hr0 hok hx hy oka okb
  have t1 : decide ((x : Int) < 0) = false := by simp
  have t2 : decide ((y : Int) < 0) = false := by simp
  have t3 : decide ((n : Int) ≤ (x : Int)) = false := by simp; omega
  have t4 : decide ((n : Int) ≤ (y : Int)) = false := by simp; omega
  have t5 : (x : Int) < n := by omega
  have t6 : (y : Int) < n := by omega
  go_enter Try.func40, Try.ntmps40
  go_wp2_with fail
  generalize w.alloc (.cells #[.int .i64 0, .int .i64 0] 38) = w1 at *
  go_wp2_with (go_at_call 31; refine HC.out.mono ?_; rintro e w2 ⟨rfl, hx2⟩; rw [HR.out]; have v0 := hx2.cell k0; have v1 := hx2.cell k1; have vz := (wb.ext hx2).2; have n1 := wb.lt hx2)
  have x2a := hx2.alloc (.cells #[.int .i64 0, .int .i64 0] 38)
  have W2 := wb.ext x2a
  have u0 := x2a.cell k0; have u1 := x2a.cell k1; have uz := W2.2
  clear v0 v1 vz
  generalize w2.alloc (.cells #[.int .i64 0, .int .i64 0] 38) = w3 at *
  go_region_held3 (fun w' => w'.cell? ⟨w.heap.size, 0, none⟩ = some (.int .i64 0) ∧ w'.cell? ⟨w.heap.size, 1, none⟩ = some (.int .i64 0) ∧ ∀ i, w'.frozen? ⟨w.heap.size, i, none⟩ = false)
    (first | exact ⟨p0, p1, pz⟩ | exact ⟨u0, u1, uz⟩ | (go_keep; done) | exact ⟨set_other (set_same p0) (by omega), set_same (set_other p1 (by omega)), fun i => by rw [World.frozen?_setCell, World.frozen?_setCell]; exact pz i⟩)
    ((go_at_call 94; ((with_reducible refine (HM.out _ (e1.trans x2a).drew _ _ rfl).mono ?_); rintro e w4 ⟨rfl, x4⟩; have p0 := x4.cell u0; have p1 := x4.cell u1; have pz := (W2.ext ((Ext.refl w3).drew.trans x4)).2)))
  go_wp2
  refine bodyPost_ret (v := .tuple #[.bool (masksB a b), .agg #[.int .i64 0, .int .i64 0]]) (by simp [results, Try.results40, go_sem, p0, p1]) rfl ?_
  have hle : w.heap.size ≤ w.heap.size := Nat.le_refl _
  exact ⟨rfl, ext_set (ext_set ((e1.trans x2a).drew.trans x4) hle _ _) hle _ _⟩
end

end Go.Proofs.Ytfdkbhbnldcbmaa
