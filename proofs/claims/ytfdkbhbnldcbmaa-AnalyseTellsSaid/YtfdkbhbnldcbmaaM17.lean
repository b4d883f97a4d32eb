/- Walk of the law AnalyseTells (printed by gen/gm17.py). -/
import Derived.Test.YtfdkbhbnldcbmaaW55
import Derived.Test.YtfdkbhbnldcbmaaW53
import Derived.Test.YtfdkbhbnldcbmaaW37
import Derived.Deep.RegionHeld3
import Derived.Deep.Cut
import Derived.Deep.CutRange
namespace Go.Proofs.Ytfdkbhbnldcbmaa
open Go.RowKit
set_option linter.unusedVariables false
set_option linter.unusedSimpArgs false

section
variable (A : Option Addr) (n c : Nat) (l : List Rule) (w : World) (h : Rules w A n c l)
set_option maxRecDepth 100000 in
set_option maxHeartbeats 16000000 in
include h in
theorem AnalyseTells_bad (i j : Int) (hr : (wrongRules l).1 ≠ 0) : Calls Try.prog 19 #[.slice A n c, .int .i64 i, .int .i64 j] w fun e w' => e = .returned (.bool true) ∧ Ext w w' := by
  have C1 := Lib.hid (refWrongs_any A n c l w h)
  have C2 := Lib.hid (fun W (e : Ext w W) => ReachW_any A n c l W (h.ext e))
  have C3 := Lib.hid (fun W (e : Ext w W) => refReach_any A n c l W (h.ext e))
  have C4 := Lib.hid (fun W (e : Ext w W) => Sure_any A n c l W (h.ext e))
  have C5 := Lib.hid (fun W (e : Ext w W) => refSure_any A n c l W (h.ext e))
  have C6 := Lib.hid (fun W (e : Ext w W) => Masks_bad A n c l i j W (h.ext e) hr)
  have C7 := Lib.hid (fun W (e : Ext w W) => Masked_bad A n c l W (h.ext e) hr)
  have C8 := Lib.hid (fun W (e : Ext w W) => Firsts_bad A n c l W (h.ext e) hr)
  have C9 := Lib.hid (fun W (e : Ext w W) => Steady_bad A n c l W (h.ext e) hr)
  have hb : ((wrongRules l).1 != 0) = true := by simpa using hr
  clear hr
  generalize (wrongRules l).1 = p1 at *
  generalize (wrongRules l).2 = p2 at *
  generalize (reachW l 0 0).1 = rw1 at *
  generalize (reachW l 0 0).2 = rw2 at *
  generalize sureR l = sr at *
  go_enter Try.func19, Try.ntmps19
  go_upto_region 10 with (first
    | (go_at_call 32; (with_reducible refine (C1.out).mono ?_); rintro e w1 ⟨rfl, y1⟩; have z1 := y1.alloc (.cells #[.int .i64 p1, .int .i64 p2] 38); have K70 := Lib.hid (cell_new w1 #[.int .i64 p1, .int .i64 p2] 38 0 (.int .i64 p1) rfl); have K71 := Lib.hid (cell_new w1 #[.int .i64 p1, .int .i64 p2] 38 1 (.int .i64 p2) rfl); have e1 := Lib.hid (z1); clear y1 z1)
    | (go_at_call 39; (with_reducible refine (C2.out _ e1.out).mono ?_); rintro e w2 ⟨rfl, y2⟩; have K70 := Lib.hid (y2.cell K70.out); have K71 := Lib.hid (y2.cell K71.out); have e2 := Lib.hid (e1.out.trans y2); clear y2)
    | (go_at_call 74; (with_reducible refine (C3.out _ e2.out).mono ?_); rintro e w3 ⟨rfl, y3⟩; have K70 := Lib.hid (y3.cell K70.out); have K71 := Lib.hid (y3.cell K71.out); have e3 := Lib.hid (e2.out.trans y3); clear y3)
    | (go_at_call 41; (with_reducible refine (C4.out _ e3.out).mono ?_); rintro e w4 ⟨rfl, y4⟩; have K70 := Lib.hid (y4.cell K70.out); have K71 := Lib.hid (y4.cell K71.out); have e4 := Lib.hid (e3.out.trans y4); clear y4)
    | (go_at_call 75; (with_reducible refine (C5.out _ e4.out).mono ?_); rintro e w5 ⟨rfl, y5⟩; have K70 := Lib.hid (y5.cell K70.out); have K71 := Lib.hid (y5.cell K71.out); have e5 := Lib.hid (e4.out.trans y5); clear y5)
    | (go_at_call 40; (with_reducible refine (C6.out _ e5.out).mono ?_); rintro e w6 ⟨rfl, y6⟩; have z6 := y6.alloc (.cells #[.int .i64 p1, .int .i64 p2] 38); have K70 := Lib.hid (z6.cell K70.out); have K71 := Lib.hid (z6.cell K71.out); have K130 := Lib.hid (cell_new w6 #[.int .i64 p1, .int .i64 p2] 38 0 (.int .i64 p1) rfl); have K131 := Lib.hid (cell_new w6 #[.int .i64 p1, .int .i64 p2] 38 1 (.int .i64 p2) rfl); have e6 := Lib.hid (e5.out.trans z6); clear y6 z6)
    | (go_at_call 45; (with_reducible refine (C7.out _ e6.out).mono ?_); rintro e w7 ⟨rfl, y7⟩; have z7 := y7.alloc (.cells #[.int .i64 p1, .int .i64 p2] 38); have K70 := Lib.hid (z7.cell K70.out); have K71 := Lib.hid (z7.cell K71.out); have K130 := Lib.hid (z7.cell K130.out); have K131 := Lib.hid (z7.cell K131.out); have K150 := Lib.hid (cell_new w7 #[.int .i64 p1, .int .i64 p2] 38 0 (.int .i64 p1) rfl); have K151 := Lib.hid (cell_new w7 #[.int .i64 p1, .int .i64 p2] 38 1 (.int .i64 p2) rfl); have e7 := Lib.hid (e6.out.trans z7); clear y7 z7)
    | (go_at_call 76; (with_reducible refine (C8.out _ e7.out).mono ?_); rintro e w8 ⟨rfl, y8⟩; have z8 := y8.alloc (.cells #[.int .i64 p1, .int .i64 p2] 38); have K70 := Lib.hid (z8.cell K70.out); have K71 := Lib.hid (z8.cell K71.out); have K130 := Lib.hid (z8.cell K130.out); have K131 := Lib.hid (z8.cell K131.out); have K150 := Lib.hid (z8.cell K150.out); have K151 := Lib.hid (z8.cell K151.out); have K170 := Lib.hid (cell_new w8 #[.int .i64 p1, .int .i64 p2] 38 0 (.int .i64 p1) rfl); have K171 := Lib.hid (cell_new w8 #[.int .i64 p1, .int .i64 p2] 38 1 (.int .i64 p2) rfl); have e8 := Lib.hid (e7.out.trans z8); clear y8 z8)
    | (go_at_call 77; (with_reducible refine (C9.out _ e8.out).mono ?_); rintro e w9 ⟨rfl, y9⟩; have z9 := y9.alloc (.cells #[.int .i64 p1, .int .i64 p2] 38); have K70 := Lib.hid (z9.cell K70.out); have K71 := Lib.hid (z9.cell K71.out); have K130 := Lib.hid (z9.cell K130.out); have K131 := Lib.hid (z9.cell K131.out); have K150 := Lib.hid (z9.cell K150.out); have K151 := Lib.hid (z9.cell K151.out); have K170 := Lib.hid (z9.cell K170.out); have K171 := Lib.hid (z9.cell K171.out); have K190 := Lib.hid (cell_new w9 #[.int .i64 p1, .int .i64 p2] 38 0 (.int .i64 p1) rfl); have K191 := Lib.hid (cell_new w9 #[.int .i64 p1, .int .i64 p2] 38 1 (.int .i64 p2) rfl); have e9 := Lib.hid (e8.out.trans z9); clear y9 z9))
  generalize w9.alloc (.cells #[.int .i64 p1, .int .i64 p2] 38) = WW at *
  have qK70 := K70.out
  have qK71 := K71.out
  have qK130 := K130.out
  have qK131 := K131.out
  have qK150 := K150.out
  have qK151 := K151.out
  have qK170 := K170.out
  have qK171 := K171.out
  have qK190 := K190.out
  have qK191 := K191.out
  go_wp2
  go_ret
  exact ⟨by simp, e9.out⟩

set_option maxRecDepth 100000 in
set_option maxHeartbeats 16000000 in
include h in
theorem AnalyseTells_far (i j : Int) (hr : (wrongRules l).1 = 0) (hf : i < 0 ∨ j < 0 ∨ (n : Int) ≤ i ∨ (n : Int) ≤ j) : Calls Try.prog 19 #[.slice A n c, .int .i64 i, .int .i64 j] w fun e w' => e = .returned (.bool true) ∧ Ext w w' := by
  obtain ⟨hr0, hl2, hok⟩ := wrongRules_zero hr
  have hn2 : n ≤ 200 := by rw [← h.len]; exact hl2
  have hcap := h.cap
  have C1 := Lib.hid (refWrongs_any A n c l w h)
  rw [hr0] at C1
  have C2 := Lib.hid (fun W (e : Ext w W) => ReachW_any A n c l W (h.ext e))
  have C3 := Lib.hid (fun W (e : Ext w W) => refReach_any A n c l W (h.ext e))
  have C4 := Lib.hid (fun W (e : Ext w W) => Sure_any A n c l W (h.ext e))
  have C5 := Lib.hid (fun W (e : Ext w W) => refSure_any A n c l W (h.ext e))
  have C7 : Hid (∀ W, Ext w W → Calls Try.prog 45 #[.slice A n c] W fun e w' => (∃ A c, e = .returned (.tuple #[.slice A (maskedTo l l.length).length c, .agg #[.int .i64 0, .int .i64 0]]) ∧ Ints w' A (maskedTo l l.length).length c ((maskedTo l l.length).map fun i : Nat => (i : Int))) ∧ Ext W w') := Lib.hid (fun W (e : Ext w W) => (Masked_ok A n c l W (h.ext e) hr).mono fun e w' hh => by
    obtain ⟨⟨AO, cO, he, hs⟩, hx⟩ := hh
    exact ⟨⟨AO, cO, he, hs.mono (fun _ _ h => h) (fun _ _ => trivial)⟩, hx⟩)
  have C8 := Lib.hid (fun W (e : Ext w W) => Firsts_ok A n c l W (h.ext e) hr)
  have C9 := Lib.hid (fun W (e : Ext w W) => Steady_ok A n c l W (h.ext e) hr)
  have D1 := Lib.hid (fun W (e : Ext w W) => refFirsts_any A n c l W (h.ext e) hok hn2)
  have D2 := Lib.hid (fun W (e : Ext w W) => refSteady_any A n c l W (h.ext e) hr)
  have D3 := Lib.hid (fun W (e : Ext w W) => refMasked_any A n c l W (h.ext e) hok hn2)
  unfold FirR at C8
  unfold MasR at D3
  have C6 := Lib.hid (fun W (e : Ext w W) => Masks_far A n c l i j W (h.ext e) hr hf)
  clear hr hr0 hl2 hok
  generalize (reachW l 0 0).1 = rw1 at *
  generalize (reachW l 0 0).2 = rw2 at *
  generalize sureR l = sr at *
  generalize (maskedTo l l.length).map (fun i : Nat => (i : Int)) = ml at *
  generalize (maskedTo l l.length).length = mn at *
  generalize ofV (allF l) = sv at *
  generalize ofE (allF l) = oe at *
  generalize steadyV l = sb at *
  go_enter Try.func19, Try.ntmps19
  go_upto_region 10 with (first
    | (go_at_call 32; (with_reducible refine (C1.out).mono ?_); rintro e w1 ⟨rfl, y1⟩; have z1 := y1.alloc (.cells #[.int .i64 0, .int .i64 0] 38); have K70 := Lib.hid (cell_new w1 #[.int .i64 0, .int .i64 0] 38 0 (.int .i64 0) rfl); have K71 := Lib.hid (cell_new w1 #[.int .i64 0, .int .i64 0] 38 1 (.int .i64 0) rfl); have e1 := Lib.hid (z1); clear y1 z1)
    | (go_at_call 39; (with_reducible refine (C2.out _ e1.out).mono ?_); rintro e w2 ⟨rfl, y2⟩; have K70 := Lib.hid (y2.cell K70.out); have K71 := Lib.hid (y2.cell K71.out); have e2 := Lib.hid (e1.out.trans y2); clear y2)
    | (go_at_call 74; (with_reducible refine (C3.out _ e2.out).mono ?_); rintro e w3 ⟨rfl, y3⟩; have K70 := Lib.hid (y3.cell K70.out); have K71 := Lib.hid (y3.cell K71.out); have e3 := Lib.hid (e2.out.trans y3); clear y3)
    | (go_at_call 41; (with_reducible refine (C4.out _ e3.out).mono ?_); rintro e w4 ⟨rfl, y4⟩; have K70 := Lib.hid (y4.cell K70.out); have K71 := Lib.hid (y4.cell K71.out); have e4 := Lib.hid (e3.out.trans y4); clear y4)
    | (go_at_call 75; (with_reducible refine (C5.out _ e4.out).mono ?_); rintro e w5 ⟨rfl, y5⟩; have K70 := Lib.hid (y5.cell K70.out); have K71 := Lib.hid (y5.cell K71.out); have e5 := Lib.hid (e4.out.trans y5); clear y5)
    | (go_at_call 40; (with_reducible refine (C6.out _ e5.out).mono ?_); rintro e w6 ⟨rfl, y6⟩; have z6 := y6.alloc (.cells #[.int .i64 3, .int .i64 0] 38); have K70 := Lib.hid (z6.cell K70.out); have K71 := Lib.hid (z6.cell K71.out); have K130 := Lib.hid (cell_new w6 #[.int .i64 3, .int .i64 0] 38 0 (.int .i64 3) rfl); have K131 := Lib.hid (cell_new w6 #[.int .i64 3, .int .i64 0] 38 1 (.int .i64 0) rfl); have e6 := Lib.hid (e5.out.trans z6); clear y6 z6)
    | (go_at_call 45; (with_reducible refine (C7.out _ e6.out).mono ?_); rintro e w7 ⟨⟨A7, c7, rfl, s7⟩, y7⟩; have z7 := y7.alloc (.cells #[.int .i64 0, .int .i64 0] 38); have K70 := Lib.hid (z7.cell K70.out); have K71 := Lib.hid (z7.cell K71.out); have K130 := Lib.hid (z7.cell K130.out); have K131 := Lib.hid (z7.cell K131.out); have K150 := Lib.hid (cell_new w7 #[.int .i64 0, .int .i64 0] 38 0 (.int .i64 0) rfl); have K151 := Lib.hid (cell_new w7 #[.int .i64 0, .int .i64 0] 38 1 (.int .i64 0) rfl); have S7 := Lib.hid (SlR.ext (keep_int _) s7 ((Ext.refl w7).alloc (.cells #[.int .i64 0, .int .i64 0] 38))); clear s7; have e7 := Lib.hid (e6.out.trans z7); clear y7 z7)
    | (go_at_call 76; (with_reducible refine (C8.out _ e7.out).mono ?_); rintro e w8 ⟨⟨A8, c8, rfl, s8⟩, y8⟩; have z8 := y8.alloc (.cells #[.int .i64 oe, .int .i64 0] 38); have K70 := Lib.hid (z8.cell K70.out); have K71 := Lib.hid (z8.cell K71.out); have K130 := Lib.hid (z8.cell K130.out); have K131 := Lib.hid (z8.cell K131.out); have K150 := Lib.hid (z8.cell K150.out); have K151 := Lib.hid (z8.cell K151.out); have S7 := Lib.hid (SlR.ext (keep_int _) S7.out z8); have K170 := Lib.hid (cell_new w8 #[.int .i64 oe, .int .i64 0] 38 0 (.int .i64 oe) rfl); have K171 := Lib.hid (cell_new w8 #[.int .i64 oe, .int .i64 0] 38 1 (.int .i64 0) rfl); have S8 := Lib.hid (Spans.ext s8 ((Ext.refl w8).alloc (.cells #[.int .i64 oe, .int .i64 0] 38))); clear s8; have e8 := Lib.hid (e7.out.trans z8); clear y8 z8)
    | (go_at_call 77; (with_reducible refine (C9.out _ e8.out).mono ?_); rintro e w9 ⟨rfl, y9⟩; have z9 := y9.alloc (.cells #[.int .i64 oe, .int .i64 0] 38); have K70 := Lib.hid (z9.cell K70.out); have K71 := Lib.hid (z9.cell K71.out); have K130 := Lib.hid (z9.cell K130.out); have K131 := Lib.hid (z9.cell K131.out); have K150 := Lib.hid (z9.cell K150.out); have K151 := Lib.hid (z9.cell K151.out); have K170 := Lib.hid (z9.cell K170.out); have K171 := Lib.hid (z9.cell K171.out); have S7 := Lib.hid (SlR.ext (keep_int _) S7.out z9); have S8 := Lib.hid (Spans.ext S8.out z9); have K190 := Lib.hid (cell_new w9 #[.int .i64 oe, .int .i64 0] 38 0 (.int .i64 oe) rfl); have K191 := Lib.hid (cell_new w9 #[.int .i64 oe, .int .i64 0] 38 1 (.int .i64 0) rfl); have e9 := Lib.hid (e8.out.trans z9); clear y9 z9))
  generalize w9.alloc (.cells #[.int .i64 oe, .int .i64 0] 38) = WW at *
  have qK70 := K70.out
  have qK71 := K71.out
  have qK130 := K130.out
  have qK131 := K131.out
  have qK150 := K150.out
  have qK151 := K151.out
  have qK170 := K170.out
  have qK171 := K171.out
  have qK190 := K190.out
  have qK191 := K191.out
  go_upto_region 12 with fail
  have eW := e9.out
  go_cut [129] from 112 to 129 (fun v wx => v = .bool true ∧ WW = wx)
  case first =>
    have hf' : decide (i < 0) = true ∨ (decide (i < 0) = false ∧ decide (j < 0) = true) ∨ (decide (i < 0) = false ∧ decide (j < 0) = false ∧ decide ((n : Int) ≤ i) = true) ∨ (decide (i < 0) = false ∧ decide (j < 0) = false ∧ decide ((n : Int) ≤ i) = false ∧ decide ((n : Int) ≤ j) = true) := by
      by_cases h1 : i < 0
      · exact .inl (by simpa using h1)
      · by_cases h2 : j < 0
        · exact .inr (.inl ⟨by simpa using h1, by simpa using h2⟩)
        · by_cases h3 : (n : Int) ≤ i
          · exact .inr (.inr (.inl ⟨by simpa using h1, by simpa using h2, by simpa using h3⟩))
          · exact .inr (.inr (.inr ⟨by simpa using h1, by simpa using h2, by simpa using h3, by simp; omega⟩))
    rcases hf' with h1 | ⟨h1, h2⟩ | ⟨h1, h2, h3⟩ | ⟨h1, h2, h3, h4⟩
    all_goals
      go_wp2_with fail
      go_meet
      exact ⟨rfl, rfl⟩
  obtain ⟨rfl, rfl⟩ := hcut
  have eP := eW
  have eQ := Ext.refl WW
  go_upto_region 19 with (first
    | (go_at_call 79; (with_reducible refine (D1.out _ eP).mono ?_); rintro e v1 ⟨⟨B1, d1, rfl, t1⟩, y1⟩; have T1 := Lib.hid t1; have g1 := Lib.hid (eQ.trans y1); clear t1 y1)
    | (go_at_call 80; (with_reducible refine (D2.out _ (eW.trans g1.out)).mono ?_); rintro e v2 ⟨rfl, y2⟩; have T2 := Lib.hid (Spans.ext T1.out (y2.alloc (.cells #[.int .i64 oe, .int .i64 0] 38))); have g2 := Lib.hid (g1.out.trans (y2.alloc (.cells #[.int .i64 oe, .int .i64 0] 38))); have K230 := Lib.hid (cell_new v2 #[.int .i64 oe, .int .i64 0] 38 0 (.int .i64 oe) rfl); have K231 := Lib.hid (cell_new v2 #[.int .i64 oe, .int .i64 0] 38 1 (.int .i64 0) rfl); clear y2))
  have r150 := g2.out.cell K150.out
  go_wp2_with (first
    | (go_at_call 82; (with_reducible refine (D3.out _ (eW.trans g2.out)).mono ?_); rintro e v3 ⟨⟨B3, d3, rfl, t3⟩, y3⟩; have T3 := Lib.hid t3; have y3h := Lib.hid y3; have g3 := Lib.hid (g2.out.trans y3); clear t3 y3)
    | (go_at_call 81; (with_reducible refine (SameI_any A7 B3 mn c7 mn d3 ml ml v3 (SlR.ext (keep_int _) S7.out g3.out) T3.out).mono ?_); rintro e v4 ⟨rfl, y4⟩; rw [decide_eq_true rfl]; have g4 := Lib.hid (g3.out.trans y4); have y34 := Lib.hid (y3h.out.trans y4); have r170 := g4.out.cell K170.out; have r171 := g4.out.cell K171.out; have r190 := g4.out.cell K190.out; have r191 := g4.out.cell K191.out; have r230 := y34.out.cell K230.out; have r231 := y34.out.cell K231.out; clear y4)
    | (go_at_call 55; (with_reducible refine (Same2_any A8 B1 _ c8 d1 sv v4 (S8.out.ext g4.out) (T2.out.ext y34.out)).mono ?_); rintro e v5 ⟨rfl, y5⟩; have g5 := Lib.hid (g4.out.trans y5); have r170 := y5.cell r170; have r171 := y5.cell r171; have r190 := y5.cell r190; have r191 := y5.cell r191; have r230 := y5.cell r230; have r231 := y5.cell r231))
  go_ret
  exact ⟨by simp, eW.trans g5.out⟩

set_option maxRecDepth 100000 in
set_option maxHeartbeats 16000000 in
include h in
theorem AnalyseTells_in (hr : (wrongRules l).1 = 0) (x y : Nat) (a b : Rule) (hx : l[x]? = some a) (hy : l[y]? = some b) : Calls Try.prog 19 #[.slice A n c, .int .i64 x, .int .i64 y] w fun e w' => e = .returned (.bool true) ∧ Ext w w' := by
  obtain ⟨hr0, hl2, hok⟩ := wrongRules_zero hr
  have hn2 : n ≤ 200 := by rw [← h.len]; exact hl2
  have hcap := h.cap
  have C1 := Lib.hid (refWrongs_any A n c l w h)
  rw [hr0] at C1
  have C2 := Lib.hid (fun W (e : Ext w W) => ReachW_any A n c l W (h.ext e))
  have C3 := Lib.hid (fun W (e : Ext w W) => refReach_any A n c l W (h.ext e))
  have C4 := Lib.hid (fun W (e : Ext w W) => Sure_any A n c l W (h.ext e))
  have C5 := Lib.hid (fun W (e : Ext w W) => refSure_any A n c l W (h.ext e))
  have C7 : Hid (∀ W, Ext w W → Calls Try.prog 45 #[.slice A n c] W fun e w' => (∃ A c, e = .returned (.tuple #[.slice A (maskedTo l l.length).length c, .agg #[.int .i64 0, .int .i64 0]]) ∧ Ints w' A (maskedTo l l.length).length c ((maskedTo l l.length).map fun i : Nat => (i : Int))) ∧ Ext W w') := Lib.hid (fun W (e : Ext w W) => (Masked_ok A n c l W (h.ext e) hr).mono fun e w' hh => by
    obtain ⟨⟨AO, cO, he, hs⟩, hx⟩ := hh
    exact ⟨⟨AO, cO, he, hs.mono (fun _ _ h => h) (fun _ _ => trivial)⟩, hx⟩)
  have C8 := Lib.hid (fun W (e : Ext w W) => Firsts_ok A n c l W (h.ext e) hr)
  have C9 := Lib.hid (fun W (e : Ext w W) => Steady_ok A n c l W (h.ext e) hr)
  have D1 := Lib.hid (fun W (e : Ext w W) => refFirsts_any A n c l W (h.ext e) hok hn2)
  have D2 := Lib.hid (fun W (e : Ext w W) => refSteady_any A n c l W (h.ext e) hr)
  have D3 := Lib.hid (fun W (e : Ext w W) => refMasked_any A n c l W (h.ext e) hok hn2)
  unfold FirR at C8
  unfold MasR at D3
  have C6 := Lib.hid (fun W (e : Ext w W) => Masks_in A n c l W (h.ext e) hr x y a b hx hy)
  have oka := hok a (List.mem_of_getElem? hx)
  have okb := hok b (List.mem_of_getElem? hy)
  have hxn : x < n := by rw [← h.len]; exact lt_of_get hx
  have hyn : y < n := by rw [← h.len]; exact lt_of_get hy
  have HRX := Lib.hid (fun W (e : Ext w W) => (h.ext e).rule hx)
  have HRY := Lib.hid (fun W (e : Ext w W) => (h.ext e).rule hy)
  have HMA := Lib.hid (fun s f A1 n1 c1 A2 n2 c2 A3 n3 c3 A4 n4 c4 q s' f' B1 m1 d1 B2 m2 d2 B3 m3 d3 B4 m4 d4 q' W ha hb => refMasks_any s f A1 n1 c1 A2 n2 c2 A3 n3 c3 A4 n4 c4 q a s' f' B1 m1 d1 B2 m2 d2 B3 m3 d3 B4 m4 d4 q' b W ha hb oka okb)
  clear hr hr0 hl2 hok hx hy oka okb
  generalize masksB a b = kb at *
  generalize (reachW l 0 0).1 = rw1 at *
  generalize (reachW l 0 0).2 = rw2 at *
  generalize sureR l = sr at *
  generalize (maskedTo l l.length).map (fun i : Nat => (i : Int)) = ml at *
  generalize (maskedTo l l.length).length = mn at *
  generalize ofV (allF l) = sv at *
  generalize ofE (allF l) = oe at *
  generalize steadyV l = sb at *
  go_enter Try.func19, Try.ntmps19
  go_upto_region 10 with (first
    | (go_at_call 32; (with_reducible refine (C1.out).mono ?_); rintro e w1 ⟨rfl, y1⟩; have z1 := y1.alloc (.cells #[.int .i64 0, .int .i64 0] 38); have K70 := Lib.hid (cell_new w1 #[.int .i64 0, .int .i64 0] 38 0 (.int .i64 0) rfl); have K71 := Lib.hid (cell_new w1 #[.int .i64 0, .int .i64 0] 38 1 (.int .i64 0) rfl); have e1 := Lib.hid (z1); clear y1 z1)
    | (go_at_call 39; (with_reducible refine (C2.out _ e1.out).mono ?_); rintro e w2 ⟨rfl, y2⟩; have K70 := Lib.hid (y2.cell K70.out); have K71 := Lib.hid (y2.cell K71.out); have e2 := Lib.hid (e1.out.trans y2); clear y2)
    | (go_at_call 74; (with_reducible refine (C3.out _ e2.out).mono ?_); rintro e w3 ⟨rfl, y3⟩; have K70 := Lib.hid (y3.cell K70.out); have K71 := Lib.hid (y3.cell K71.out); have e3 := Lib.hid (e2.out.trans y3); clear y3)
    | (go_at_call 41; (with_reducible refine (C4.out _ e3.out).mono ?_); rintro e w4 ⟨rfl, y4⟩; have K70 := Lib.hid (y4.cell K70.out); have K71 := Lib.hid (y4.cell K71.out); have e4 := Lib.hid (e3.out.trans y4); clear y4)
    | (go_at_call 75; (with_reducible refine (C5.out _ e4.out).mono ?_); rintro e w5 ⟨rfl, y5⟩; have K70 := Lib.hid (y5.cell K70.out); have K71 := Lib.hid (y5.cell K71.out); have e5 := Lib.hid (e4.out.trans y5); clear y5)
    | (go_at_call 40; (with_reducible refine (C6.out _ e5.out).mono ?_); rintro e w6 ⟨rfl, y6⟩; have z6 := y6.alloc (.cells #[.int .i64 0, .int .i64 0] 38); have K70 := Lib.hid (z6.cell K70.out); have K71 := Lib.hid (z6.cell K71.out); have K130 := Lib.hid (cell_new w6 #[.int .i64 0, .int .i64 0] 38 0 (.int .i64 0) rfl); have K131 := Lib.hid (cell_new w6 #[.int .i64 0, .int .i64 0] 38 1 (.int .i64 0) rfl); have e6 := Lib.hid (e5.out.trans z6); clear y6 z6)
    | (go_at_call 45; (with_reducible refine (C7.out _ e6.out).mono ?_); rintro e w7 ⟨⟨A7, c7, rfl, s7⟩, y7⟩; have z7 := y7.alloc (.cells #[.int .i64 0, .int .i64 0] 38); have K70 := Lib.hid (z7.cell K70.out); have K71 := Lib.hid (z7.cell K71.out); have K130 := Lib.hid (z7.cell K130.out); have K131 := Lib.hid (z7.cell K131.out); have K150 := Lib.hid (cell_new w7 #[.int .i64 0, .int .i64 0] 38 0 (.int .i64 0) rfl); have K151 := Lib.hid (cell_new w7 #[.int .i64 0, .int .i64 0] 38 1 (.int .i64 0) rfl); have S7 := Lib.hid (SlR.ext (keep_int _) s7 ((Ext.refl w7).alloc (.cells #[.int .i64 0, .int .i64 0] 38))); clear s7; have e7 := Lib.hid (e6.out.trans z7); clear y7 z7)
    | (go_at_call 76; (with_reducible refine (C8.out _ e7.out).mono ?_); rintro e w8 ⟨⟨A8, c8, rfl, s8⟩, y8⟩; have z8 := y8.alloc (.cells #[.int .i64 oe, .int .i64 0] 38); have K70 := Lib.hid (z8.cell K70.out); have K71 := Lib.hid (z8.cell K71.out); have K130 := Lib.hid (z8.cell K130.out); have K131 := Lib.hid (z8.cell K131.out); have K150 := Lib.hid (z8.cell K150.out); have K151 := Lib.hid (z8.cell K151.out); have S7 := Lib.hid (SlR.ext (keep_int _) S7.out z8); have K170 := Lib.hid (cell_new w8 #[.int .i64 oe, .int .i64 0] 38 0 (.int .i64 oe) rfl); have K171 := Lib.hid (cell_new w8 #[.int .i64 oe, .int .i64 0] 38 1 (.int .i64 0) rfl); have S8 := Lib.hid (Spans.ext s8 ((Ext.refl w8).alloc (.cells #[.int .i64 oe, .int .i64 0] 38))); clear s8; have e8 := Lib.hid (e7.out.trans z8); clear y8 z8)
    | (go_at_call 77; (with_reducible refine (C9.out _ e8.out).mono ?_); rintro e w9 ⟨rfl, y9⟩; have z9 := y9.alloc (.cells #[.int .i64 oe, .int .i64 0] 38); have K70 := Lib.hid (z9.cell K70.out); have K71 := Lib.hid (z9.cell K71.out); have K130 := Lib.hid (z9.cell K130.out); have K131 := Lib.hid (z9.cell K131.out); have K150 := Lib.hid (z9.cell K150.out); have K151 := Lib.hid (z9.cell K151.out); have K170 := Lib.hid (z9.cell K170.out); have K171 := Lib.hid (z9.cell K171.out); have S7 := Lib.hid (SlR.ext (keep_int _) S7.out z9); have S8 := Lib.hid (Spans.ext S8.out z9); have K190 := Lib.hid (cell_new w9 #[.int .i64 oe, .int .i64 0] 38 0 (.int .i64 oe) rfl); have K191 := Lib.hid (cell_new w9 #[.int .i64 oe, .int .i64 0] 38 1 (.int .i64 0) rfl); have e9 := Lib.hid (e8.out.trans z9); clear y9 z9))
  generalize w9.alloc (.cells #[.int .i64 oe, .int .i64 0] 38) = WW at *
  have qK70 := K70.out
  have qK71 := K71.out
  have qK130 := K130.out
  have qK131 := K131.out
  have qK150 := K150.out
  have qK151 := K151.out
  have qK170 := K170.out
  have qK171 := K171.out
  have qK190 := K190.out
  have qK191 := K191.out
  have eW := e9.out
  obtain ⟨b1, o1, s, f, A1, n1, c1, A2, n2, c2, A3, n3, c3, A4, n4, c4, q, rfl, ⟨_, hne⟩, hv, i0, i1, i2, i3, i4, i5, i6⟩ := HRX.out WW eW
  obtain ⟨b2, o2, s', f', B1', m1, d1', B2', m2, d2', B3', m3, d3', B4', m4, d4', q', e', ⟨_, hne'⟩, hv', j0, j1, j2, j3, j4, j5, j6⟩ := HRY.out WW eW
  cases e'
  have HC := Lib.hid (HMA.out s f A1 n1 c1 A2 n2 c2 A3 n3 c3 A4 n4 c4 q s' f' B1' m1 d1' B2' m2 d2' B3' m3 d3' B4' m4 d4' q' WW.drew (hv.ext ((Ext.refl WW).drew.agree top)) (hv'.ext ((Ext.refl WW).drew.agree top)))
  clear HMA HRX HRY hv hv'
  have t1 : decide ((x : Int) < 0) = false := by simp
  have t2 : decide ((y : Int) < 0) = false := by simp
  have t3 : decide ((n : Int) ≤ (x : Int)) = false := by simp; omega
  have t4 : decide ((n : Int) ≤ (y : Int)) = false := by simp; omega
  have t5 : (x : Int) < (n : Int) := by omega
  have t6 : (y : Int) < (n : Int) := by omega
  go_upto_region 15 with fail
  have y0 : Ext WW WW.drew := (Ext.refl WW).drew
  go_region_held3 (fun w' => w'.cell? ⟨w6.heap.size, 0, none⟩ = some (.int .i64 0) ∧ w'.cell? ⟨b1, o1 + x * 7, none⟩ = some (.bool s) ∧ w'.cell? ⟨b1, o1 + x * 7 + 1, none⟩ = some (.bool f) ∧ w'.cell? ⟨b1, o1 + x * 7 + 2, none⟩ = some (.slice A1 n1 c1) ∧ w'.cell? ⟨b1, o1 + x * 7 + 3, none⟩ = some (.slice A2 n2 c2) ∧ w'.cell? ⟨b1, o1 + x * 7 + 4, none⟩ = some (.slice A3 n3 c3) ∧ w'.cell? ⟨b1, o1 + x * 7 + 5, none⟩ = some (.slice A4 n4 c4) ∧ w'.cell? ⟨b1, o1 + x * 7 + 6, none⟩ = some (.int .i64 q) ∧ w'.cell? ⟨b1, o1 + y * 7, none⟩ = some (.bool s') ∧ w'.cell? ⟨b1, o1 + y * 7 + 1, none⟩ = some (.bool f') ∧ w'.cell? ⟨b1, o1 + y * 7 + 2, none⟩ = some (.slice B1' m1 d1') ∧ w'.cell? ⟨b1, o1 + y * 7 + 3, none⟩ = some (.slice B2' m2 d2') ∧ w'.cell? ⟨b1, o1 + y * 7 + 4, none⟩ = some (.slice B3' m3 d3') ∧ w'.cell? ⟨b1, o1 + y * 7 + 5, none⟩ = some (.slice B4' m4 d4') ∧ w'.cell? ⟨b1, o1 + y * 7 + 6, none⟩ = some (.int .i64 q'))
    (first | go_keep | exact ⟨pf, p0, p1, p2, p3, p4, p5, p6, p7, p8, p9, p10, p11, p12, p13⟩)
    ((go_at_call 78; ((with_reducible refine HC.out.mono ?_); rintro e v0 ⟨rfl, yy⟩; have x0 := Lib.hid (y0.trans yy); have pf := x0.out.cell qK130; have p0 := x0.out.cell i0; have p1 := x0.out.cell i1; have p2 := x0.out.cell i2; have p3 := x0.out.cell i3; have p4 := x0.out.cell i4; have p5 := x0.out.cell i5; have p6 := x0.out.cell i6; have p7 := x0.out.cell j0; have p8 := x0.out.cell j1; have p9 := x0.out.cell j2; have p10 := x0.out.cell j3; have p11 := x0.out.cell j4; have p12 := x0.out.cell j5; have p13 := x0.out.cell j6)))
  clear i0 i1 i2 i3 i4 i5 i6 j0 j1 j2 j3 j4 j5 j6 pf p0 p1 p2 p3 p4 p5 p6 p7 p8 p9 p10 p11 p12 p13
  go_upto_region 17 with fail
  have eP := eW.trans x0.out
  have eQ := x0.out
  go_upto_region 19 with (first
    | (go_at_call 79; (with_reducible refine (D1.out _ eP).mono ?_); rintro e v1 ⟨⟨B1, d1, rfl, t1⟩, y1⟩; have T1 := Lib.hid t1; have g1 := Lib.hid (eQ.trans y1); clear t1 y1)
    | (go_at_call 80; (with_reducible refine (D2.out _ (eW.trans g1.out)).mono ?_); rintro e v2 ⟨rfl, y2⟩; have T2 := Lib.hid (Spans.ext T1.out (y2.alloc (.cells #[.int .i64 oe, .int .i64 0] 38))); have g2 := Lib.hid (g1.out.trans (y2.alloc (.cells #[.int .i64 oe, .int .i64 0] 38))); have K230 := Lib.hid (cell_new v2 #[.int .i64 oe, .int .i64 0] 38 0 (.int .i64 oe) rfl); have K231 := Lib.hid (cell_new v2 #[.int .i64 oe, .int .i64 0] 38 1 (.int .i64 0) rfl); clear y2))
  have r150 := g2.out.cell K150.out
  go_wp2_with (first
    | (go_at_call 82; (with_reducible refine (D3.out _ (eW.trans g2.out)).mono ?_); rintro e v3 ⟨⟨B3, d3, rfl, t3⟩, y3⟩; have T3 := Lib.hid t3; have y3h := Lib.hid y3; have g3 := Lib.hid (g2.out.trans y3); clear t3 y3)
    | (go_at_call 81; (with_reducible refine (SameI_any A7 B3 mn c7 mn d3 ml ml v3 (SlR.ext (keep_int _) S7.out g3.out) T3.out).mono ?_); rintro e v4 ⟨rfl, y4⟩; rw [decide_eq_true rfl]; have g4 := Lib.hid (g3.out.trans y4); have y34 := Lib.hid (y3h.out.trans y4); have r170 := g4.out.cell K170.out; have r171 := g4.out.cell K171.out; have r190 := g4.out.cell K190.out; have r191 := g4.out.cell K191.out; have r230 := y34.out.cell K230.out; have r231 := y34.out.cell K231.out; clear y4)
    | (go_at_call 55; (with_reducible refine (Same2_any A8 B1 _ c8 d1 sv v4 (S8.out.ext g4.out) (T2.out.ext y34.out)).mono ?_); rintro e v5 ⟨rfl, y5⟩; have g5 := Lib.hid (g4.out.trans y5); have r170 := y5.cell r170; have r171 := y5.cell r171; have r190 := y5.cell r190; have r191 := y5.cell r191; have r230 := y5.cell r230; have r231 := y5.cell r231))
  go_ret
  exact ⟨by simp, eW.trans g5.out⟩

end

theorem AnalyseTells_any (A : Option Addr) (n c : Nat) (l : List Rule) (i j : Int) (w : World) (h : Rules w A n c l) : Calls Try.prog 19 #[.slice A n c, .int .i64 i, .int .i64 j] w fun e w' => e = .returned (.bool true) ∧ Ext w w' := by
  by_cases hr : (wrongRules l).1 = 0
  · by_cases hf : i < 0 ∨ j < 0 ∨ (n : Int) ≤ i ∨ (n : Int) ≤ j
    · exact AnalyseTells_far A n c l w h i j hr hf
    · obtain ⟨x, rfl⟩ := Int.eq_ofNat_of_zero_le (show 0 ≤ i by omega)
      obtain ⟨y, rfl⟩ := Int.eq_ofNat_of_zero_le (show 0 ≤ j by omega)
      obtain ⟨a, ha⟩ := h.idx (k := x) (by omega)
      obtain ⟨b, hb⟩ := h.idx (k := y) (by omega)
      exact AnalyseTells_in A n c l w h hr x y a b ha hb
  · exact AnalyseTells_bad A n c l w h i j hr

end Go.Proofs.Ytfdkbhbnldcbmaa
