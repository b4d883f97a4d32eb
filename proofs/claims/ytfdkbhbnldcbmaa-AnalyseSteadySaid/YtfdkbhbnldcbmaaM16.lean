/- Walk of the law AnalyseSteady. -/
import Derived.Test.YtfdkbhbnldcbmaaM15
namespace Go.Proofs.Ytfdkbhbnldcbmaa
open Go.RowKit
set_option linter.unusedVariables false
set_option linter.unusedSimpArgs false

set_option maxRecDepth 100000 in
set_option maxHeartbeats 4000000 in
theorem AnalyseSteady_any (A : Option Addr) (n c : Nat) (l : List Rule) (X : Option Addr) (m d : Nat) (t : List Int) (w : World) (h : Rules w A n c l) (ht : Runes w X m d t) :
    Calls Try.prog 21 #[.slice A n c, .slice X m d] w fun e w' => e = .returned (.bool true) ∧ Ext w w' := by
  have C1 := Lib.hid (alive9_any w)
  by_cases hr : (wrongRules l).1 = 0
  · have C2 := Lib.hid (fun W (e : Ext w W) => Steady_ok A n c l W (h.ext e) hr)
    by_cases he : ofE (allF l) = 0
    · rw [he] at C2
      cases hs : steadyV l
      · rw [hs] at C2
        clear hr he hs
        go_enter Try.func21, Try.ntmps21
        go_wp2_with (first
          | (go_at_call 38; refine C1.out.mono ?_; rintro e w1 ⟨rfl, x1⟩)
          | (go_at_call 77; refine (C2.out _ x1).mono ?_; rintro e w2 ⟨rfl, x2⟩; have e3 := (x1.trans x2).alloc (.cells #[.int .i64 0, .int .i64 0] 38)))
        go_ret
        exact ⟨rfl, e3⟩
      · rw [hs] at C2
        have hsb : steadyB l = true := by
          unfold steadyV at hs
          rw [Bool.and_eq_true] at hs
          exact hs.2
        have C3 := Lib.hid (fun W (e : Ext w W) => Run_any A n c l X m d t W (h.ext e) (ht.ext e))
        unfold RunR at C3
        by_cases hf : (runF l t).1 = 0
        · have HL := steady_law hr he hsb hf
          have C4 := Lib.hid (fun W AR nR cR (e : Ext w W) (hR : Runes W AR nR cR (runAll l t).text) => Run_any A n c l AR nR cR (runAll l t).text W (h.ext e) hR)
          unfold RunR at C4
          rw [HL.1, HL.2] at C4
          rw [hf] at C3
          clear hr he hs hsb hf HL
          simp only [] at C4
          generalize (runAll l t).steps = st at *
          generalize (runAll l t).put = pt at *
          generalize (runAll l t).text = tx at *
          generalize (runF l t).2 = r2 at *
          go_enter Try.func21, Try.ntmps21
          go_wp2_with (first
            | (go_at_call 38; refine C1.out.mono ?_; rintro e w1 ⟨rfl, x1⟩)
            | (go_at_call 77; refine (C2.out _ x1).mono ?_; rintro e w2 ⟨rfl, x2⟩; have e3 := (x1.trans x2).alloc (.cells #[.int .i64 0, .int .i64 0] 38); have hb2 : w.heap.size ≤ w2.heap.size := (x1.trans x2).size; have K0 := Lib.hid (cell_new w2 #[.int .i64 0, .int .i64 0] 38 0 (.int .i64 0) rfl); have K1 := Lib.hid (cell_new w2 #[.int .i64 0, .int .i64 0] 38 1 (.int .i64 0) rfl); have KW := Lib.hid (Wr.new w2 #[.int .i64 0, .int .i64 0] 38))
            | (go_at_call 36; ((with_reducible refine (C3.out _ e3).mono ?_); rintro e w4 ⟨⟨A4, n4, c4, rfl, s4⟩, x4⟩; have y0 := x4.cell K0.out; have y1 := x4.cell K1.out; have yz := (KW.out.ext x4).2; have yl := KW.out.lt x4; have ne4 := Nat.ne_of_lt yl; have ne4s := ne4.symm; have e5 := (ext_set (ext_set (e3.trans x4) hb2 0 (.int .i64 0)) hb2 1 (.int .i64 r2)).alloc (.cells #[.slice A4 n4 c4, .int .i64 st, .int .i64 pt] 45); have d5 := (Ext.refl (put2 w4 w2.heap.size (.int .i64 0) (.int .i64 r2))).alloc (.cells #[.slice A4 n4 c4, .int .i64 st, .int .i64 pt] 45); have q4 := Runes.ext (SlR.overInt (u := .int .i64 r2) (SlR.overInt (u := .int .i64 0) s4 y0) (set_other (o' := 0) (v := .int .i64 0) y1 (by omega))) d5; have J0 := Lib.hid (d5.cell (set_other (o' := 1) (v := .int .i64 r2) (set_same (v := .int .i64 0) y0) (by omega))); have J1 := Lib.hid (d5.cell (set_same (v := .int .i64 r2) (set_other (o' := 0) (v := .int .i64 0) y1 (by omega)))); have JW := Lib.hid ((((KW.out.ext x4).set ⟨w2.heap.size, 0, none⟩ (.int .i64 0)).set ⟨w2.heap.size, 1, none⟩ (.int .i64 r2)).ext d5); have O0 := Lib.hid (cell_new' (put2 w4 w2.heap.size (.int .i64 0) (.int .i64 r2)) #[.slice A4 n4 c4, .int .i64 st, .int .i64 pt] 45 0 (.slice A4 n4 c4) rfl (size_put2 _ _ _ _))))
            | (go_at_call 36; ((with_reducible refine (C4.out _ A4 n4 c4 e5 q4).mono ?_); rintro e w6 ⟨⟨A6, n6, c6, rfl, s6⟩, x6⟩; have u0 := x6.cell J0.out; have u1 := x6.cell J1.out; have uz := (JW.out.ext x6).2; have ul := JW.out.lt x6; have ne6 := Nat.ne_of_lt ul; have ne6s := ne6.symm; have o4 := x6.cell O0.out; have ol := World.block_lt_of_cell? _ _ o4; have on6 := Nat.ne_of_lt ol; have e7 := (ext_set (ext_set (e5.trans x6) hb2 0 (.int .i64 0)) hb2 1 (.int .i64 0)).alloc (.cells #[.slice A6 n6 c6, .int .i64 tx.length, .int .i64 0] 45); have d7 := (Ext.refl (put2 w6 w2.heap.size (.int .i64 0) (.int .i64 0))).alloc (.cells #[.slice A6 n6 c6, .int .i64 tx.length, .int .i64 0] 45); have q5 := Runes.ext (SlR.overInt (u := .int .i64 0) (SlR.overInt (u := .int .i64 0) (Runes.ext q4 x6) u0) (set_other (o' := 0) (v := .int .i64 0) u1 (by omega))) d7; have q6 := Runes.ext (SlR.overInt (u := .int .i64 0) (SlR.overInt (u := .int .i64 0) s6 u0) (set_other (o' := 0) (v := .int .i64 0) u1 (by omega))) d7))
            | (go_at_call 30; refine (Same_any A4 A6 n4 c4 n6 c6 tx tx _ q5 q6).mono ?_; rintro e w8 ⟨rfl, x8⟩))
          go_ret
          exact ⟨by simp, e7.trans x8⟩
        · have hb : ((runF l t).1 != 0) = true := by simpa using hf
          clear hr he hs hsb hf
          generalize (runAll l t).steps = st at *
          generalize (runAll l t).put = pt at *
          generalize (runAll l t).text = tx at *
          generalize (runF l t).1 = r1 at *
          generalize (runF l t).2 = r2 at *
          go_enter Try.func21, Try.ntmps21
          go_wp2_with (first
            | (go_at_call 38; refine C1.out.mono ?_; rintro e w1 ⟨rfl, x1⟩)
            | (go_at_call 77; refine (C2.out _ x1).mono ?_; rintro e w2 ⟨rfl, x2⟩; have e3 := (x1.trans x2).alloc (.cells #[.int .i64 0, .int .i64 0] 38); have hb2 : w.heap.size ≤ w2.heap.size := (x1.trans x2).size; have K0 := Lib.hid (cell_new w2 #[.int .i64 0, .int .i64 0] 38 0 (.int .i64 0) rfl); have K1 := Lib.hid (cell_new w2 #[.int .i64 0, .int .i64 0] 38 1 (.int .i64 0) rfl); have KW := Lib.hid (Wr.new w2 #[.int .i64 0, .int .i64 0] 38))
            | (go_at_call 36; refine (C3.out _ e3).mono ?_; rintro e w4 ⟨⟨A4, n4, c4, rfl, s4⟩, x4⟩; have y0 := x4.cell K0.out; have y1 := x4.cell K1.out; have yz := (KW.out.ext x4).2; have yl := KW.out.lt x4; have ne4 := Nat.ne_of_lt yl; have ne4s := ne4.symm; have e5 := (ext_set (ext_set (e3.trans x4) hb2 0 (.int .i64 r1)) hb2 1 (.int .i64 r2)).alloc (.cells #[.slice A4 n4 c4, .int .i64 st, .int .i64 pt] 45); clear s4))
          go_ret
          exact ⟨rfl, e5⟩
    · have hb : (ofE (allF l) != 0) = true := by simpa using he
      clear hr he
      generalize steadyV l = sv at *
      go_enter Try.func21, Try.ntmps21
      go_wp2_with (first
        | (go_at_call 38; refine C1.out.mono ?_; rintro e w1 ⟨rfl, x1⟩)
        | (go_at_call 77; refine (C2.out _ x1).mono ?_; rintro e w2 ⟨rfl, x2⟩; have e3 := (x1.trans x2).alloc (.cells #[.int .i64 (ofE (allF l)), .int .i64 0] 38)))
      go_ret
      exact ⟨rfl, e3⟩
  · have C2 := Lib.hid (fun W (e : Ext w W) => Steady_bad A n c l W (h.ext e) hr)
    have hb : ((wrongRules l).1 != 0) = true := by simpa using hr
    clear hr
    generalize (wrongRules l).1 = p1 at *
    generalize (wrongRules l).2 = p2 at *
    go_enter Try.func21, Try.ntmps21
    go_wp2_with (first
      | (go_at_call 38; refine C1.out.mono ?_; rintro e w1 ⟨rfl, x1⟩)
      | (go_at_call 77; refine (C2.out _ x1).mono ?_; rintro e w2 ⟨rfl, x2⟩; have e3 := (x1.trans x2).alloc (.cells #[.int .i64 p1, .int .i64 p2] 38)))
    go_ret
    exact ⟨rfl, e3⟩

end Go.Proofs.Ytfdkbhbnldcbmaa
