/- Walks: whether one rule masks another; the law's own closed fact. -/
import Derived.Test.YtfdkbhbnldcbmaaW21
namespace Go.Proofs.Ytfdkbhbnldcbmaa
open Go.RowKit
set_option linter.unusedVariables false
set_option linter.unusedSimpArgs false

/-- what Masks hands back -/
def maskF (l : List Rule) (i j : Int) : Int × Nat := if (wrongRules l).1 ≠ 0 then wrongRules l else if i < 0 ∨ j < 0 ∨ (l.length : Int) ≤ i ∨ (l.length : Int) ≤ j then (3, 0) else (0, 0)
def maskV (l : List Rule) (i j : Int) : Bool := decide ((maskF l i j).1 = 0) && masksB (l.getD i.toNat default) (l.getD j.toNat default)

/-- what Masked hands back where rules are wrong -/
theorem Masked_bad (A : Option Addr) (n c : Nat) (l : List Rule) (w : World) (h : Rules w A n c l) (hr : (wrongRules l).1 ≠ 0) :
    Calls Try.prog 45 #[.slice A n c] w fun e w' => e = .returned (.tuple #[.slice none 0 0, .agg #[.int .i64 (wrongRules l).1, .int .i64 (wrongRules l).2]]) ∧ Ext w w' := by
  have e1 : Ext w ((w.alloc (.cells #[.slice A n c] 36)).alloc (.cells #[.int .i64 0, .int .i64 0] 38)) := ((Ext.refl w).alloc _).alloc _
  have k1 : ((w.alloc (.cells #[.slice A n c] 36)).alloc (.cells #[.int .i64 0, .int .i64 0] 38)).cell? ⟨w.heap.size + 1, 0, none⟩ = some (.int .i64 0) := by simp
  have k2 : ((w.alloc (.cells #[.slice A n c] 36)).alloc (.cells #[.int .i64 0, .int .i64 0] 38)).cell? ⟨w.heap.size + 1, 1, none⟩ = some (.int .i64 0) := by simp
  have wb := Wr.new (w.alloc (.cells #[.slice A n c] 36)) #[.int .i64 0, .int .i64 0] 38
  rw [World.size_alloc] at wb
  have hs0 : w.heap.size + 2 ≤ ((w.alloc (.cells #[.slice A n c] 36)).alloc (.cells #[.int .i64 0, .int .i64 0] 38)).heap.size := by simp
  have HC := Lib.hid (Wrongs_any A n c l _ (h.ext e1))
  have hr' : ((wrongRules l).1 != 0) = true := by simpa using hr
  clear hr
  generalize (wrongRules l).1 = p1 at *
  generalize (wrongRules l).2 = p2 at *
  go_enter Try.func45, Try.ntmps45
  go_wp2_with fail
  generalize (w.alloc (.cells #[.slice A n c] 36)).alloc (.cells #[.int .i64 0, .int .i64 0] 38) = w1 at *
  go_wp2_with (go_at_call 31; refine HC.out.mono ?_; rintro e w2 ⟨rfl, hx2⟩; have x12 := hx2.alloc (.cells #[.int .i64 p1, .int .i64 p2] 38); have v0 := hx2.cell k1; have v1 := hx2.cell k2; have vz := (wb.ext hx2).2; have n1 := wb.lt hx2)
  go_region
  go_wp2
  refine bodyPost_ret (v := .tuple #[.slice none 0 0, .agg #[.int .i64 p1, .int .i64 p2]]) (by simp [results, Try.results45, go_sem, v0, v1, n1]) rfl ?_
  exact ⟨rfl, by refine Ext.drew ?_; repeat (first | exact e1.trans x12 | exact (e1.trans hx2) | refine ext_set ?_ (by omega) _ _ | refine Ext.alloc ?_ _)⟩

theorem one9_any (r : Int) (w : World) (hr : i32 r) :
    Calls Try.prog 93 #[.int .i32 r] w fun e w' => e = .returned (.slice (some ⟨w.heap.size, 0, none⟩) 1 1) ∧ Spans w' (some ⟨w.heap.size, 0, none⟩) 1 1 [⟨r, r⟩] ∧ Ext w w' := by
  have e1 := (Ext.refl w).alloc (.cells #[.int .i32 r, .int .i32 r] 80)
  have s1 : Spans (w.alloc (.cells #[.int .i32 r, .int .i32 r] 80)) (some ⟨w.heap.size, 0, none⟩) 1 1 [⟨r, r⟩] :=
    SlR.fresh rfl (by unfold maxLen; omega) fun k x hx => by
      match k, hx with
      | 0, hx => cases hx; exact ⟨[.int .i32 r, .int .i32 r], rfl, ⟨rfl, hr, hr⟩, fun j u hu => by match j, hu with | 0, hu => simpa using hu | 1, hu => simpa using hu⟩
  go_enter Try.func93, Try.ntmps93
  go_wp2
  go_ret
  exact ⟨rfl, s1, e1⟩

def ra9 : Rule := ⟨false, false, [], [[⟨97, 97⟩]], [], [], 0⟩

theorem ra9_rules (w : World) (b : Nat) (hb : Sets w (some ⟨b, 0, none⟩) 1 1 [[⟨97, 97⟩]]) : rRule w [.bool false, .bool false, .slice none 0 0, .slice (some ⟨b, 0, none⟩) 1 1, .slice none 0 0, .slice none 0 0, .int .i64 0] ra9 :=
  ⟨false, false, none, 0, 0, _, 1, 1, none, 0, 0, none, 0, 0, 0, rfl, ⟨rfl, rfl, SlR.nil _ _ _ _ _ _ (by unfold maxLen; omega), hb, SlR.nil _ _ _ _ _ _ (by unfold maxLen; omega), SlR.nil _ _ _ _ _ _ (by unfold maxLen; omega), rfl, by unfold i64; omega⟩⟩

theorem rules1_new {w : World} {cs : List Value} {r : Rule} (t : TypeId) (h7 : cs.length = 7) (h : rRule w cs r) : Rules (w.alloc (.cells cs.toArray t)) (some ⟨w.heap.size, 0, none⟩) 1 1 [r] :=
  SlR.fresh rfl (by unfold maxLen; omega) fun k x hx => by
    match k, hx with
    | 0, hx => cases hx; exact ⟨cs, h7, keep_rule _ _ _ _ (((Ext.refl w).alloc _).agree top) h, fun j u hu => by simpa using hu⟩
theorem rules2_new {w : World} {cs : List Value} {r : Rule} (t : TypeId) (h7 : cs.length = 7) (h : rRule w cs r) : Rules (w.alloc (.cells (cs ++ cs).toArray t)) (some ⟨w.heap.size, 0, none⟩) 2 2 [r, r] :=
  SlR.fresh rfl (by unfold maxLen; omega) fun k x hx => by
    have hj : ∀ {j : Nat} {u : Value}, cs[j]? = some u → j < 7 := fun hu => by have := lt_of_get hu; omega
    match k, hx with
    | 0, hx => cases hx; exact ⟨cs, h7, keep_rule _ _ _ _ (((Ext.refl w).alloc _).agree top) h, fun j u hu => by have := hj hu; simp only [Nat.zero_mul, Nat.zero_add, List.getElem?_toArray]; rw [List.getElem?_append_left (by omega)]; exact hu⟩
    | 1, hx => cases hx; exact ⟨cs, h7, keep_rule _ _ _ _ (((Ext.refl w).alloc _).agree top) h, fun j u hu => by have := hj hu; simp only [Nat.one_mul, List.getElem?_toArray]; rw [List.getElem?_append_right (by omega), h7, show 7 + j - 7 = j by omega]; exact hu⟩

theorem sets1_new {w : World} {b : Nat} {x : List Sp} (t : TypeId) (h : Spans w (some ⟨b, 0, none⟩) 1 1 x) : Sets (w.alloc (.cells #[.slice (some ⟨b, 0, none⟩) 1 1] t)) (some ⟨w.heap.size, 0, none⟩) 1 1 [x] :=
  SlR.fresh rfl (by unfold maxLen; omega) fun k u hu => by
    match k, hu with
    | 0, hu => cases hu; exact ⟨[.slice (some ⟨b, 0, none⟩) 1 1], rfl, ⟨_, 1, 1, rfl, h.ext ((Ext.refl w).alloc _)⟩, fun j v hv => by match j, hv with | 0, hv => simpa using hv⟩

theorem masked9 : maskedTo [ra9, ra9] [ra9, ra9].length = [1] := by decide
theorem wrong9 : (wrongRules [ra9, ra9]).1 = 0 := by decide
theorem wrong9' : (wrongRules [ra9]).1 = 0 := by decide

set_option maxRecDepth 100000 in
set_option maxHeartbeats 2000000 in
theorem alive9_any (w : World) : Calls Try.prog 38 #[] w fun e w' => e = .returned (.bool true) ∧ Ext w w' := by
  have HS : Hid (∀ W, Calls Try.prog 41 #[.slice none 0 0] W fun e w' => e = .returned (.bool true) ∧ Ext W w') := Lib.hid (fun W => Sure_any none 0 0 [] W (SlR.nil _ _ _ _ _ _ (by unfold maxLen; omega)))
  have HC := Lib.hid (fun W A (h : Rules W A 2 2 [ra9, ra9]) => (Masked_ok A 2 2 [ra9, ra9] W h wrong9).mono (R' := fun e w' => (∃ A c, e = .returned (.tuple #[.slice A 1 c, .agg #[.int .i64 0, .int .i64 0]]) ∧ Ints w' A 1 c [1]) ∧ Ext W w') fun e w' hh => by
    obtain ⟨⟨AO, cO, he, hs⟩, hx⟩ := hh
    rw [masked9] at he hs
    exact ⟨⟨AO, cO, he, hs.mono (fun _ _ h => h) (fun _ _ => trivial)⟩, hx⟩)
  have HR : Hid (∀ W A, Rules W A 1 1 [ra9] → Calls Try.prog 39 #[.slice A 1 1] W fun e w' => e = .returned (.tuple #[.int .i64 0, .int .i64 1]) ∧ Ext W w') := Lib.hid (fun W A (h : Rules W A 1 1 [ra9]) => Reach_any A 1 1 [ra9] W h (wrongRules_zero wrong9').2.2)
  go_enter Try.func38, Try.ntmps38
  go_upto_region 2 with (go_at_call 93; refine (one9_any 97 _ (by unfold i32; omega)).mono ?_; rintro e w1 ⟨rfl, s1, x1⟩)
  have hb := (sets1_new 67 s1).ext ((Ext.refl _).alloc (.cells #[.bool false, .bool false, .slice none 0 0, .slice (some ⟨w1.heap.size, 0, none⟩) 1 1, .slice none 0 0, .slice none 0 0, .int .i64 0] 25))
  have hr := RuleAt.new (s := false) (f := false) (A1 := none) (n1 := 0) (c1 := 0) (A2 := some ⟨w1.heap.size, 0, none⟩) (n2 := 1) (c2 := 1) (A3 := none) (n3 := 0) (c3 := 0) (A4 := none) (n4 := 0) (c4 := 0) (q := 0) (w1.alloc (.cells #[.slice (some ⟨w.heap.size, 0, none⟩) 1 1] 67)) 25
  have e2 := (x1.alloc (.cells #[.slice (some ⟨w.heap.size, 0, none⟩) 1 1] 67)).alloc (.cells #[.bool false, .bool false, .slice none 0 0, .slice (some ⟨w1.heap.size, 0, none⟩) 1 1, .slice none 0 0, .slice none 0 0, .int .i64 0] 25)
  rw [World.size_alloc] at hr
  generalize (w1.alloc (.cells #[.slice (some ⟨w.heap.size, 0, none⟩) 1 1] 67)).alloc (.cells #[.bool false, .bool false, .slice none 0 0, .slice (some ⟨w1.heap.size, 0, none⟩) 1 1, .slice none 0 0, .slice none 0 0, .int .i64 0] 25) = w2 at *
  have hq2 : Rules (w2.alloc (.cells #[.bool false, .bool false, .slice none 0 0, .slice (some ⟨w1.heap.size, 0, none⟩) 1 1, .slice none 0 0, .slice none 0 0, .int .i64 0, .bool false, .bool false, .slice none 0 0, .slice (some ⟨w1.heap.size, 0, none⟩) 1 1, .slice none 0 0, .slice none 0 0, .int .i64 0] 25)) (some ⟨w2.heap.size, 0, none⟩) 2 2 [ra9, ra9] := rules2_new (w := w2) 25 rfl (ra9_rules w2 _ hb)
  have H2 := Lib.hid (HC.out _ _ hq2)
  obtain ⟨r0, r1, r2, r3, r4, r5, r6⟩ := hr.box
  have hlt := World.block_lt_of_cell? _ _ r0
  go_upto_region 3 with (go_at_call 45; refine H2.out.mono ?_; rintro e w3 ⟨⟨AO, cO, rfl, sO⟩, x3⟩)
  clear r0 r1 r2 r3 r4 r5 r6 hlt
  have x23 := ((Ext.refl w2).alloc (.cells #[.bool false, .bool false, .slice none 0 0, .slice (some ⟨w1.heap.size, 0, none⟩) 1 1, .slice none 0 0, .slice none 0 0, .int .i64 0, .bool false, .bool false, .slice none 0 0, .slice (some ⟨w1.heap.size, 0, none⟩) 1 1, .slice none 0 0, .slice none 0 0, .int .i64 0] 25)).trans x3
  have e3 := e2.trans x23
  obtain ⟨r0, r1, r2, r3, r4, r5, r6⟩ := (hr.ext x23).box
  have hlt := World.block_lt_of_cell? _ _ r0
  have x34 := (Ext.refl w3).alloc (.cells #[.int .i64 0, .int .i64 0] 38)
  have K0 := Lib.hid (cell_new w3 #[.int .i64 0, .int .i64 0] 38 0 (.int .i64 0) rfl)
  have hq3 : Rules ((w3.alloc (.cells #[.int .i64 0, .int .i64 0] 38)).alloc (.cells #[.bool false, .bool false, .slice none 0 0, .slice (some ⟨w1.heap.size, 0, none⟩) 1 1, .slice none 0 0, .slice none 0 0, .int .i64 0] 25)) (some ⟨w3.heap.size + 1, 0, none⟩) 1 1 [ra9] := by
    have := rules1_new (w := w3.alloc (.cells #[.int .i64 0, .int .i64 0] 38)) 25 rfl (ra9_rules _ _ (hb.ext (x23.trans x34)))
    rw [World.size_alloc] at this
    exact this
  have H3 := Lib.hid (HR.out _ _ hq3)
  have x35 := x34.alloc (.cells #[.bool false, .bool false, .slice none 0 0, .slice (some ⟨w1.heap.size, 0, none⟩) 1 1, .slice none 0 0, .slice none 0 0, .int .i64 0] 25)
  go_upto_region 4 with (go_at_call 39; refine H3.out.mono ?_; rintro e w5 ⟨rfl, x5⟩)
  have x5a := x35.trans x5
  obtain ⟨b, off, rfl, ⟨_, hne⟩, hc, _⟩ := SlR.int (k := 0) (sO.ext (keep_int _) x5a) rfl
  simp only [Nat.add_zero] at hc
  have v0 := ((((Ext.refl _).alloc _).trans x5).cell K0.out)
  clear r0 r1 r2 r3 r4 r5 r6 hlt
  go_wp2_with (go_at_call 41; refine (HS.out _).mono ?_; rintro e w6 ⟨rfl, x6⟩)
  go_ret
  exact ⟨rfl, (e3.trans x5a).trans x6⟩

end Go.Proofs.Ytfdkbhbnldcbmaa
