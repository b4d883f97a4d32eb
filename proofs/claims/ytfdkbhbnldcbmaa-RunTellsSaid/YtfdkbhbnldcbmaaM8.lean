/- Walk of the law RunTells. -/
import Derived.Test.YtfdkbhbnldcbmaaW16b
import Derived.Test.YtfdkbhbnldcbmaaW17b
import Derived.Test.YtfdkbhbnldcbmaaW12
namespace Go.Proofs.Ytfdkbhbnldcbmaa
open Go.RowKit
set_option linter.unusedVariables false
set_option linter.unusedSimpArgs false

/-- runes are where they were behind a store over a number -/
theorem SlR.overInt {ok : Nat → Prop} {w : World} {A : Option Addr} {n c : Nat} {l : List Int} {B o : Nat} {v : Int} {u : Value} (h : SlR rRune 1 ok w A n c l) (hc : w.cell? ⟨B, o, none⟩ = some (.int .i64 v)) :
    SlR rRune 1 ok (w.setCell ⟨B, o, none⟩ u) A n c l :=
  ⟨h.len, h.cap, h.max, fun k x hx => by
    obtain ⟨b, off, vs, e, ho, hl, hr, hcs⟩ := h.at_ k x hx
    refine ⟨b, off, vs, e, ho, hl, hr, fun j y hy => ?_⟩
    have h1 := hcs j y hy
    rw [World.cell?_setCell_other]
    · exact h1
    · intro e2
      rw [e2, h1] at hc
      obtain ⟨rfl, _⟩ := hr
      match j, hy with
      | 0, hy => simp at hy; subst hy; simp at hc⟩

theorem set_far {w : World} {b o B o' : Nat} {x u : Value} (h : w.cell? ⟨b, o, none⟩ = some x) (hn : b ≠ B) : (w.setCell ⟨B, o', none⟩ u).cell? ⟨b, o, none⟩ = some x := by
  rw [World.cell?_setCell_other _ _ _ _ (by intro e; cases e; exact hn rfl)]; exact h

theorem cell_new' (w : World) (cs : Array Value) (t : TypeId) (j : Nat) (u : Value) (h : cs[j]? = some u) {B : Nat} (hB : w.heap.size = B) : (w.alloc (.cells cs t)).cell? ⟨B, j, none⟩ = some u := by
  subst hB; exact cell_new w cs t j u h
theorem Wr.new' (w : World) (cs : Array Value) (t : TypeId) {B : Nat} (hB : w.heap.size = B) : Wr (w.alloc (.cells cs t)) B := by subst hB; exact Wr.new w cs t
/-- a block's two cells are laid anew -/
abbrev put2 (w : World) (B : Nat) (x y : Value) : World := (w.setCell ⟨B, 0, none⟩ x).setCell ⟨B, 1, none⟩ y
theorem size_put2 (w : World) (B : Nat) (x y : Value) : (put2 w B x y).heap.size = w.heap.size := by simp [put2]

section
variable (A : Option Addr) (n c : Nat) (l : List Rule) (X : Option Addr) (m d : Nat) (t : List Int) (a : Int) (w : World) (h : Rules w A n c l) (ht : Runes w X m d t)
set_option maxRecDepth 100000 in
set_option maxHeartbeats 4000000 in
include h ht in
theorem RunTells_bad (hc : (checkRun l t).1 ≠ 0) :
    Calls Try.prog 4 #[.slice A n c, .slice X m d, .int .i64 a] w fun e w' => e = .returned (.bool true) ∧ Ext w w' := by
  have C1 := Lib.hid (fun W (e : Ext w W) => Wrongs_any A n c l W (h.ext e))
  have C2 := Lib.hid (fun W (e : Ext w W) => refWrongs_any A n c l W (h.ext e))
  have C3 := Lib.hid (fun W (e : Ext w W) => Check_any A n c l X m d t W (h.ext e) (ht.ext e))
  have C4 := Lib.hid (fun W (e : Ext w W) => Which_any A n c l X m d t a W (h.ext e) (ht.ext e))
  have C6 := Lib.hid (fun W (e : Ext w W) => Run_any A n c l X m d t W (h.ext e) (ht.ext e))
  have C7 := Lib.hid (fun W (e : Ext w W) => refRun_any A n c l X m d t W (h.ext e) (ht.ext e))
  have hlen := Lib.hid ht.len
  have hcap := ht.cap; have hmax := ht.max; unfold maxLen at hmax
  have HF := Lib.hid (whichF_bad (a := a) hc)
  have HV : Hid (whichV l t a = 0) := Lib.hid (whichV_bad (by rw [HF.out]; exact hc))
  have hn0 : ((checkRun l t).1 == 0) = false := by simpa using hc
  have hn1 : ((checkRun l t).1 != 0) = true := by simpa using hc
  clear hc
  rw [HF.out, HV.out] at C4
  generalize (checkRun l t).1 = c1 at *
  generalize (checkRun l t).2 = c2 at *
  unfold RunR at C6 C7
  generalize (wrongRules l).1 = p1 at C1 C2
  generalize (wrongRules l).2 = p2 at C1 C2
  generalize (runAll l t).steps = st at C6 C7
  generalize (runAll l t).put = pt at C6 C7
  generalize (runAll l t).text = tx at C6 C7
  generalize (runF l t).1 = r1 at C6 C7
  generalize (runF l t).2 = r2 at C6 C7
  clear h ht
  go_enter Try.func4, Try.ntmps4
  go_wp2_with (first
    | (go_at_call 31; refine (C1.out _ (Ext.refl w)).mono ?_; rintro e w1 ⟨rfl, x1⟩)
    | (go_at_call 32; refine (C2.out _ x1).mono ?_; rintro e w2 ⟨rfl, x2⟩; have e2 := x1.trans x2)
    | (go_at_call 33; refine (C3.out _ e2).mono ?_; rintro e w3 ⟨rfl, x3⟩; have e3 := (e2.trans x3).alloc (.cells #[.int .i64 c1, .int .i64 c2] 38); have W3 := Wr.new w3 #[.int .i64 c1, .int .i64 c2] 38; have K0 := Lib.hid (cell_new w3 #[.int .i64 c1, .int .i64 c2] 38 0 (.int .i64 c1) rfl); have K1 := Lib.hid (cell_new w3 #[.int .i64 c1, .int .i64 c2] 38 1 (.int .i64 c2) rfl))
    | (go_at_call 34; refine (C4.out _ e3).mono ?_; rintro e w4 ⟨rfl, x4⟩; have j0 := x4.cell K0.out; have j1 := x4.cell K1.out; have jz := (W3.ext x4).2; have jl := W3.lt x4; have ne4 := Nat.ne_of_lt jl; have ne4s := ne4.symm; have e34 := e3.trans x4; have hb3 : w.heap.size ≤ w3.heap.size := (e2.trans x3).size; have e4 := (e34).alloc (.cells #[.int .i64 c1, .int .i64 c2] 38); have W4 := Wr.new' (w4) #[.int .i64 c1, .int .i64 c2] 38 rfl; have I0 := Lib.hid (cell_new' (w4) #[.int .i64 c1, .int .i64 c2] 38 0 (.int .i64 c1) rfl rfl); have I1 := Lib.hid (cell_new' (w4) #[.int .i64 c1, .int .i64 c2] 38 1 (.int .i64 c2) rfl rfl))
    | (go_at_call 36; refine (C6.out _ e4).mono ?_; rintro e w6 ⟨⟨A1, n1, c1', rfl, hA⟩, x6⟩; have q0 := x6.cell I0.out; have q1 := x6.cell I1.out; have qz := (W4.ext x6).2; have ql := W4.lt x6; have ne6 := Nat.ne_of_lt ql; have ne6s := ne6.symm; have hb4 : w.heap.size ≤ w4.heap.size := (e3.trans x4).size; have e7 := (ext_set (ext_set (Ext.trans e4 x6) hb4 0 (.int .i64 r1)) hb4 1 (.int .i64 r2)).alloc (.cells #[.slice A1 n1 c1', .int .i64 st, .int .i64 pt] 45); have d6 := (Ext.refl (put2 w6 w4.heap.size (.int .i64 r1) (.int .i64 r2))).alloc (.cells #[.slice A1 n1 c1', .int .i64 st, .int .i64 pt] 45); have hA3 := Runes.ext (SlR.overInt (u := .int .i64 r2) (SlR.overInt (u := .int .i64 r1) hA q0) (set_other (o' := 0) (v := .int .i64 r1) q1 (by omega))) d6; have S0 := Lib.hid (d6.cell (set_other (o' := 1) (v := .int .i64 r2) (set_same (v := .int .i64 r1) q0) (by omega))); have S1 := Lib.hid (d6.cell (set_same (v := .int .i64 r2) (set_other (o' := 0) (v := .int .i64 r1) q1 (by omega)))); have Z0 := Lib.hid (cell_new' (put2 w6 w4.heap.size (.int .i64 r1) (.int .i64 r2)) #[.slice A1 n1 c1', .int .i64 st, .int .i64 pt] 45 0 (.slice A1 n1 c1') rfl (size_put2 _ _ _ _)); have Z1 := Lib.hid (cell_new' (put2 w6 w4.heap.size (.int .i64 r1) (.int .i64 r2)) #[.slice A1 n1 c1', .int .i64 st, .int .i64 pt] 45 1 (.int .i64 st) rfl (size_put2 _ _ _ _)); have Z2 := Lib.hid (cell_new' (put2 w6 w4.heap.size (.int .i64 r1) (.int .i64 r2)) #[.slice A1 n1 c1', .int .i64 st, .int .i64 pt] 45 2 (.int .i64 pt) rfl (size_put2 _ _ _ _)))
    | (go_at_call 37; refine (C7.out _ e7).mono ?_; rintro e w8 ⟨⟨A2, n2, c2', rfl, hB⟩, x8⟩; have b0 := x8.cell S0.out; have b1 := x8.cell S1.out; have g0 := x8.cell Z0.out; have g1 := x8.cell Z1.out; have g2 := x8.cell Z2.out; have u4 := World.block_lt_of_cell? _ _ b0; have u6 := World.block_lt_of_cell? _ _ g0; have x8a := (x8.alloc (.cells #[.slice A2 n2 c2', .int .i64 st, .int .i64 pt] 45)).alloc (.cells #[.int .i64 r1, .int .i64 r2] 38); have e8 := e7.trans x8a)
    | (go_at_call 30; refine (Same_any _ _ _ _ _ _ _ _ _ (Runes.ext hA3 x8a) (Runes.ext hB (((Ext.refl w8).alloc _).alloc _))).mono ?_; rintro e w9 ⟨rfl, x9⟩; simp only [decide_true]))
  go_ret
  exact ⟨rfl, e8.trans x9⟩

set_option maxRecDepth 100000 in
set_option maxHeartbeats 4000000 in
include h ht in
theorem RunTells_low (hc : (checkRun l t).1 = 0) (ha : a < 0) :
    Calls Try.prog 4 #[.slice A n c, .slice X m d, .int .i64 a] w fun e w' => e = .returned (.bool true) ∧ Ext w w' := by
  have C1 := Lib.hid (fun W (e : Ext w W) => Wrongs_any A n c l W (h.ext e))
  have C2 := Lib.hid (fun W (e : Ext w W) => refWrongs_any A n c l W (h.ext e))
  have C3 := Lib.hid (fun W (e : Ext w W) => Check_any A n c l X m d t W (h.ext e) (ht.ext e))
  have C4 := Lib.hid (fun W (e : Ext w W) => Which_any A n c l X m d t a W (h.ext e) (ht.ext e))
  have C6 := Lib.hid (fun W (e : Ext w W) => Run_any A n c l X m d t W (h.ext e) (ht.ext e))
  have C7 := Lib.hid (fun W (e : Ext w W) => refRun_any A n c l X m d t W (h.ext e) (ht.ext e))
  have hlen := Lib.hid ht.len
  have hcap := ht.cap; have hmax := ht.max; unfold maxLen at hmax
  have HK : Hid (checkRun l t = (0, 0)) := Lib.hid (by
    by_cases hr : (wrongRules l).1 = 0
    · rw [checkRun_text hr] at hc ⊢; simp only at hc; rw [hc]
    · rw [checkRun_rules hr] at hc; exact absurd hc hr)
  have HF := Lib.hid (whichF_far (a := a) hc (.inl ha))
  have HV : Hid (whichV l t a = 0) := Lib.hid (whichV_bad (by rw [HF.out]; simp))
  clear hc
  rw [HF.out, HV.out] at C4
  rw [HK.out] at C3
  unfold RunR at C6 C7
  generalize (wrongRules l).1 = p1 at C1 C2
  generalize (wrongRules l).2 = p2 at C1 C2
  generalize (runAll l t).steps = st at C6 C7
  generalize (runAll l t).put = pt at C6 C7
  generalize (runAll l t).text = tx at C6 C7
  generalize (runF l t).1 = r1 at C6 C7
  generalize (runF l t).2 = r2 at C6 C7
  clear h ht
  go_enter Try.func4, Try.ntmps4
  go_wp2_with (first
    | (go_at_call 31; refine (C1.out _ (Ext.refl w)).mono ?_; rintro e w1 ⟨rfl, x1⟩)
    | (go_at_call 32; refine (C2.out _ x1).mono ?_; rintro e w2 ⟨rfl, x2⟩; have e2 := x1.trans x2)
    | (go_at_call 33; refine (C3.out _ e2).mono ?_; rintro e w3 ⟨rfl, x3⟩; have e3 := (e2.trans x3).alloc (.cells #[.int .i64 0, .int .i64 0] 38); have W3 := Wr.new w3 #[.int .i64 0, .int .i64 0] 38; have K0 := Lib.hid (cell_new w3 #[.int .i64 0, .int .i64 0] 38 0 (.int .i64 0) rfl); have K1 := Lib.hid (cell_new w3 #[.int .i64 0, .int .i64 0] 38 1 (.int .i64 0) rfl))
    | (go_at_call 34; refine (C4.out _ e3).mono ?_; rintro e w4 ⟨rfl, x4⟩; have j0 := x4.cell K0.out; have j1 := x4.cell K1.out; have jz := (W3.ext x4).2; have jl := W3.lt x4; have ne4 := Nat.ne_of_lt jl; have ne4s := ne4.symm; have e34 := e3.trans x4; have hb3 : w.heap.size ≤ w3.heap.size := (e2.trans x3).size; have e4 := (ext_set (ext_set e34 hb3 0 (.int .i64 3)) hb3 1 (.int .i64 0)).alloc (.cells #[.int .i64 3, .int .i64 0] 38); have W4 := Wr.new' (put2 w4 w3.heap.size (.int .i64 3) (.int .i64 0)) #[.int .i64 3, .int .i64 0] 38 (size_put2 _ _ _ _); have I0 := Lib.hid (cell_new' (put2 w4 w3.heap.size (.int .i64 3) (.int .i64 0)) #[.int .i64 3, .int .i64 0] 38 0 (.int .i64 3) rfl (size_put2 _ _ _ _)); have I1 := Lib.hid (cell_new' (put2 w4 w3.heap.size (.int .i64 3) (.int .i64 0)) #[.int .i64 3, .int .i64 0] 38 1 (.int .i64 0) rfl (size_put2 _ _ _ _)))
    | (go_at_call 36; refine (C6.out _ e4).mono ?_; rintro e w6 ⟨⟨A1, n1, c1', rfl, hA⟩, x6⟩; have q0 := x6.cell I0.out; have q1 := x6.cell I1.out; have qz := (W4.ext x6).2; have ql := W4.lt x6; have ne6 := Nat.ne_of_lt ql; have ne6s := ne6.symm; have hb4 : w.heap.size ≤ w4.heap.size := (e3.trans x4).size; have e7 := (ext_set (ext_set (Ext.trans e4 x6) hb4 0 (.int .i64 r1)) hb4 1 (.int .i64 r2)).alloc (.cells #[.slice A1 n1 c1', .int .i64 st, .int .i64 pt] 45); have d6 := (Ext.refl (put2 w6 w4.heap.size (.int .i64 r1) (.int .i64 r2))).alloc (.cells #[.slice A1 n1 c1', .int .i64 st, .int .i64 pt] 45); have hA3 := Runes.ext (SlR.overInt (u := .int .i64 r2) (SlR.overInt (u := .int .i64 r1) hA q0) (set_other (o' := 0) (v := .int .i64 r1) q1 (by omega))) d6; have S0 := Lib.hid (d6.cell (set_other (o' := 1) (v := .int .i64 r2) (set_same (v := .int .i64 r1) q0) (by omega))); have S1 := Lib.hid (d6.cell (set_same (v := .int .i64 r2) (set_other (o' := 0) (v := .int .i64 r1) q1 (by omega)))); have Z0 := Lib.hid (cell_new' (put2 w6 w4.heap.size (.int .i64 r1) (.int .i64 r2)) #[.slice A1 n1 c1', .int .i64 st, .int .i64 pt] 45 0 (.slice A1 n1 c1') rfl (size_put2 _ _ _ _)); have Z1 := Lib.hid (cell_new' (put2 w6 w4.heap.size (.int .i64 r1) (.int .i64 r2)) #[.slice A1 n1 c1', .int .i64 st, .int .i64 pt] 45 1 (.int .i64 st) rfl (size_put2 _ _ _ _)); have Z2 := Lib.hid (cell_new' (put2 w6 w4.heap.size (.int .i64 r1) (.int .i64 r2)) #[.slice A1 n1 c1', .int .i64 st, .int .i64 pt] 45 2 (.int .i64 pt) rfl (size_put2 _ _ _ _)))
    | (go_at_call 37; refine (C7.out _ e7).mono ?_; rintro e w8 ⟨⟨A2, n2, c2', rfl, hB⟩, x8⟩; have b0 := x8.cell S0.out; have b1 := x8.cell S1.out; have g0 := x8.cell Z0.out; have g1 := x8.cell Z1.out; have g2 := x8.cell Z2.out; have u4 := World.block_lt_of_cell? _ _ b0; have u6 := World.block_lt_of_cell? _ _ g0; have x8a := (x8.alloc (.cells #[.slice A2 n2 c2', .int .i64 st, .int .i64 pt] 45)).alloc (.cells #[.int .i64 r1, .int .i64 r2] 38); have e8 := e7.trans x8a)
    | (go_at_call 30; refine (Same_any _ _ _ _ _ _ _ _ _ (Runes.ext hA3 x8a) (Runes.ext hB (((Ext.refl w8).alloc _).alloc _))).mono ?_; rintro e w9 ⟨rfl, x9⟩; simp only [decide_true]))
  go_ret
  exact ⟨rfl, e8.trans x9⟩

set_option maxRecDepth 100000 in
set_option maxHeartbeats 4000000 in
include h ht in
theorem RunTells_far (hc : (checkRun l t).1 = 0) (ha0 : 0 ≤ a) (ha : (m : Int) < a) :
    Calls Try.prog 4 #[.slice A n c, .slice X m d, .int .i64 a] w fun e w' => e = .returned (.bool true) ∧ Ext w w' := by
  have C1 := Lib.hid (fun W (e : Ext w W) => Wrongs_any A n c l W (h.ext e))
  have C2 := Lib.hid (fun W (e : Ext w W) => refWrongs_any A n c l W (h.ext e))
  have C3 := Lib.hid (fun W (e : Ext w W) => Check_any A n c l X m d t W (h.ext e) (ht.ext e))
  have C4 := Lib.hid (fun W (e : Ext w W) => Which_any A n c l X m d t a W (h.ext e) (ht.ext e))
  have C6 := Lib.hid (fun W (e : Ext w W) => Run_any A n c l X m d t W (h.ext e) (ht.ext e))
  have C7 := Lib.hid (fun W (e : Ext w W) => refRun_any A n c l X m d t W (h.ext e) (ht.ext e))
  have hlen := Lib.hid ht.len
  have hcap := ht.cap; have hmax := ht.max; unfold maxLen at hmax
  have HK : Hid (checkRun l t = (0, 0)) := Lib.hid (by
    by_cases hr : (wrongRules l).1 = 0
    · rw [checkRun_text hr] at hc ⊢; simp only at hc; rw [hc]
    · rw [checkRun_rules hr] at hc; exact absurd hc hr)
  have HF := Lib.hid (whichF_far (a := a) hc (.inr (by rw [hlen.out]; exact ha)))
  have HV : Hid (whichV l t a = 0) := Lib.hid (whichV_bad (by rw [HF.out]; simp))
  have ha1 : decide (a < 0) = false := by simp; omega
  have ha2 : decide ((m : Int) < a) = true := by simpa using ha
  clear hc
  rw [HF.out, HV.out] at C4
  rw [HK.out] at C3
  unfold RunR at C6 C7
  generalize (wrongRules l).1 = p1 at C1 C2
  generalize (wrongRules l).2 = p2 at C1 C2
  generalize (runAll l t).steps = st at C6 C7
  generalize (runAll l t).put = pt at C6 C7
  generalize (runAll l t).text = tx at C6 C7
  generalize (runF l t).1 = r1 at C6 C7
  generalize (runF l t).2 = r2 at C6 C7
  clear h ht
  go_enter Try.func4, Try.ntmps4
  go_wp2_with (first
    | (go_at_call 31; refine (C1.out _ (Ext.refl w)).mono ?_; rintro e w1 ⟨rfl, x1⟩)
    | (go_at_call 32; refine (C2.out _ x1).mono ?_; rintro e w2 ⟨rfl, x2⟩; have e2 := x1.trans x2)
    | (go_at_call 33; refine (C3.out _ e2).mono ?_; rintro e w3 ⟨rfl, x3⟩; have e3 := (e2.trans x3).alloc (.cells #[.int .i64 0, .int .i64 0] 38); have W3 := Wr.new w3 #[.int .i64 0, .int .i64 0] 38; have K0 := Lib.hid (cell_new w3 #[.int .i64 0, .int .i64 0] 38 0 (.int .i64 0) rfl); have K1 := Lib.hid (cell_new w3 #[.int .i64 0, .int .i64 0] 38 1 (.int .i64 0) rfl))
    | (go_at_call 34; refine (C4.out _ e3).mono ?_; rintro e w4 ⟨rfl, x4⟩; have j0 := x4.cell K0.out; have j1 := x4.cell K1.out; have jz := (W3.ext x4).2; have jl := W3.lt x4; have ne4 := Nat.ne_of_lt jl; have ne4s := ne4.symm; have e34 := e3.trans x4; have hb3 : w.heap.size ≤ w3.heap.size := (e2.trans x3).size; have e4 := (ext_set (ext_set e34 hb3 0 (.int .i64 3)) hb3 1 (.int .i64 0)).alloc (.cells #[.int .i64 3, .int .i64 0] 38); have W4 := Wr.new' (put2 w4 w3.heap.size (.int .i64 3) (.int .i64 0)) #[.int .i64 3, .int .i64 0] 38 (size_put2 _ _ _ _); have I0 := Lib.hid (cell_new' (put2 w4 w3.heap.size (.int .i64 3) (.int .i64 0)) #[.int .i64 3, .int .i64 0] 38 0 (.int .i64 3) rfl (size_put2 _ _ _ _)); have I1 := Lib.hid (cell_new' (put2 w4 w3.heap.size (.int .i64 3) (.int .i64 0)) #[.int .i64 3, .int .i64 0] 38 1 (.int .i64 0) rfl (size_put2 _ _ _ _)))
    | (go_at_call 36; refine (C6.out _ e4).mono ?_; rintro e w6 ⟨⟨A1, n1, c1', rfl, hA⟩, x6⟩; have q0 := x6.cell I0.out; have q1 := x6.cell I1.out; have qz := (W4.ext x6).2; have ql := W4.lt x6; have ne6 := Nat.ne_of_lt ql; have ne6s := ne6.symm; have hb4 : w.heap.size ≤ w4.heap.size := (e3.trans x4).size; have e7 := (ext_set (ext_set (Ext.trans e4 x6) hb4 0 (.int .i64 r1)) hb4 1 (.int .i64 r2)).alloc (.cells #[.slice A1 n1 c1', .int .i64 st, .int .i64 pt] 45); have d6 := (Ext.refl (put2 w6 w4.heap.size (.int .i64 r1) (.int .i64 r2))).alloc (.cells #[.slice A1 n1 c1', .int .i64 st, .int .i64 pt] 45); have hA3 := Runes.ext (SlR.overInt (u := .int .i64 r2) (SlR.overInt (u := .int .i64 r1) hA q0) (set_other (o' := 0) (v := .int .i64 r1) q1 (by omega))) d6; have S0 := Lib.hid (d6.cell (set_other (o' := 1) (v := .int .i64 r2) (set_same (v := .int .i64 r1) q0) (by omega))); have S1 := Lib.hid (d6.cell (set_same (v := .int .i64 r2) (set_other (o' := 0) (v := .int .i64 r1) q1 (by omega)))); have Z0 := Lib.hid (cell_new' (put2 w6 w4.heap.size (.int .i64 r1) (.int .i64 r2)) #[.slice A1 n1 c1', .int .i64 st, .int .i64 pt] 45 0 (.slice A1 n1 c1') rfl (size_put2 _ _ _ _)); have Z1 := Lib.hid (cell_new' (put2 w6 w4.heap.size (.int .i64 r1) (.int .i64 r2)) #[.slice A1 n1 c1', .int .i64 st, .int .i64 pt] 45 1 (.int .i64 st) rfl (size_put2 _ _ _ _)); have Z2 := Lib.hid (cell_new' (put2 w6 w4.heap.size (.int .i64 r1) (.int .i64 r2)) #[.slice A1 n1 c1', .int .i64 st, .int .i64 pt] 45 2 (.int .i64 pt) rfl (size_put2 _ _ _ _)))
    | (go_at_call 37; refine (C7.out _ e7).mono ?_; rintro e w8 ⟨⟨A2, n2, c2', rfl, hB⟩, x8⟩; have b0 := x8.cell S0.out; have b1 := x8.cell S1.out; have g0 := x8.cell Z0.out; have g1 := x8.cell Z1.out; have g2 := x8.cell Z2.out; have u4 := World.block_lt_of_cell? _ _ b0; have u6 := World.block_lt_of_cell? _ _ g0; have x8a := (x8.alloc (.cells #[.slice A2 n2 c2', .int .i64 st, .int .i64 pt] 45)).alloc (.cells #[.int .i64 r1, .int .i64 r2] 38); have e8 := e7.trans x8a)
    | (go_at_call 30; refine (Same_any _ _ _ _ _ _ _ _ _ (Runes.ext hA3 x8a) (Runes.ext hB (((Ext.refl w8).alloc _).alloc _))).mono ?_; rintro e w9 ⟨rfl, x9⟩; simp only [decide_true]))
  go_ret
  exact ⟨rfl, e8.trans x9⟩

set_option maxRecDepth 100000 in
set_option maxHeartbeats 4000000 in
include h ht in
theorem RunTells_fine (hc : (checkRun l t).1 = 0) (k : Nat) (ek : a = k) (ha : k ≤ m) :
    Calls Try.prog 4 #[.slice A n c, .slice X m d, .int .i64 a] w fun e w' => e = .returned (.bool true) ∧ Ext w w' := by
  have C1 := Lib.hid (fun W (e : Ext w W) => Wrongs_any A n c l W (h.ext e))
  have C2 := Lib.hid (fun W (e : Ext w W) => refWrongs_any A n c l W (h.ext e))
  have C3 := Lib.hid (fun W (e : Ext w W) => Check_any A n c l X m d t W (h.ext e) (ht.ext e))
  have C4 := Lib.hid (fun W (e : Ext w W) => Which_any A n c l X m d t a W (h.ext e) (ht.ext e))
  have C6 := Lib.hid (fun W (e : Ext w W) => Run_any A n c l X m d t W (h.ext e) (ht.ext e))
  have C7 := Lib.hid (fun W (e : Ext w W) => refRun_any A n c l X m d t W (h.ext e) (ht.ext e))
  have hlen := Lib.hid ht.len
  have hcap := ht.cap; have hmax := ht.max; unfold maxLen at hmax
  have HK : Hid (checkRun l t = (0, 0)) := Lib.hid (by
    by_cases hr : (wrongRules l).1 = 0
    · rw [checkRun_text hr] at hc ⊢; simp only at hc; rw [hc]
    · rw [checkRun_rules hr] at hc; exact absurd hc hr)
  subst ek
  have hr0 : (wrongRules l).1 = 0 := by
    by_cases hz : (wrongRules l).1 = 0
    · exact hz
    · rw [checkRun_rules hz] at hc; exact absurd hc hz
  have OK := Lib.hid (wrongRules_zero hr0).2.2
  have hm : m ≤ 4000 := by
    have hx : wrongText t = 0 := by rw [checkRun_text hr0] at hc; exact hc
    have := (text_of hx).1; rw [hlen.out] at this; exact this
  have HF := Lib.hid (whichF_in (a := (k : Int)) hc (by rw [hlen.out]; omega))
  have HV : Hid (whichV l t k = first l t k) := Lib.hid (whichV_in (by rw [HF.out]))
  have C5 := Lib.hid (fun W (e : Ext w W) => refWhich_any A n c l X m d t k W (h.ext e) (ht.ext e) hm ha OK.out)
  have ha1 : decide ((k : Int) < 0) = false := by simp
  have ha2 : decide ((m : Int) < (k : Int)) = false := by simp; omega
  clear hc hr0
  rw [HF.out, HV.out] at C4
  rw [HK.out] at C3
  generalize first l t k = q at *
  unfold RunR at C6 C7
  generalize (wrongRules l).1 = p1 at C1 C2
  generalize (wrongRules l).2 = p2 at C1 C2
  generalize (runAll l t).steps = st at C6 C7
  generalize (runAll l t).put = pt at C6 C7
  generalize (runAll l t).text = tx at C6 C7
  generalize (runF l t).1 = r1 at C6 C7
  generalize (runF l t).2 = r2 at C6 C7
  clear h ht
  go_enter Try.func4, Try.ntmps4
  go_wp2_with (first
    | (go_at_call 31; refine (C1.out _ (Ext.refl w)).mono ?_; rintro e w1 ⟨rfl, x1⟩)
    | (go_at_call 32; refine (C2.out _ x1).mono ?_; rintro e w2 ⟨rfl, x2⟩; have e2 := x1.trans x2)
    | (go_at_call 33; refine (C3.out _ e2).mono ?_; rintro e w3 ⟨rfl, x3⟩; have e3 := (e2.trans x3).alloc (.cells #[.int .i64 0, .int .i64 0] 38); have W3 := Wr.new w3 #[.int .i64 0, .int .i64 0] 38; have K0 := Lib.hid (cell_new w3 #[.int .i64 0, .int .i64 0] 38 0 (.int .i64 0) rfl); have K1 := Lib.hid (cell_new w3 #[.int .i64 0, .int .i64 0] 38 1 (.int .i64 0) rfl))
    | (go_at_call 34; refine (C4.out _ e3).mono ?_; rintro e w4 ⟨rfl, x4⟩; have j0 := x4.cell K0.out; have j1 := x4.cell K1.out; have jz := (W3.ext x4).2; have jl := W3.lt x4; have ne4 := Nat.ne_of_lt jl; have ne4s := ne4.symm; have e34 := e3.trans x4; have hb3 : w.heap.size ≤ w3.heap.size := (e2.trans x3).size; have e4 := (e34).alloc (.cells #[.int .i64 0, .int .i64 0] 38); have W4 := Wr.new' (w4) #[.int .i64 0, .int .i64 0] 38 rfl; have I0 := Lib.hid (cell_new' (w4) #[.int .i64 0, .int .i64 0] 38 0 (.int .i64 0) rfl rfl); have I1 := Lib.hid (cell_new' (w4) #[.int .i64 0, .int .i64 0] 38 1 (.int .i64 0) rfl rfl))
    | (go_at_call 35; refine (C5.out _ e4).mono ?_; rintro e w5 ⟨rfl, x5⟩; have e5 := e4.trans x5; have l0 := x5.cell (((Ext.refl w4).alloc _).cell j0); have l1 := x5.cell (((Ext.refl w4).alloc _).cell j1); have i0b := x5.cell I0.out; have i1b := x5.cell I1.out; have I0 := Lib.hid i0b; have I1 := Lib.hid i1b; have W4 := W4.ext x5)
    | (go_at_call 36; refine (C6.out _ e5).mono ?_; rintro e w6 ⟨⟨A1, n1, c1', rfl, hA⟩, x6⟩; have q0 := x6.cell I0.out; have q1 := x6.cell I1.out; have qz := (W4.ext x6).2; have ql := W4.lt x6; have ne6 := Nat.ne_of_lt ql; have ne6s := ne6.symm; have hb4 : w.heap.size ≤ w4.heap.size := (e3.trans x4).size; have e7 := (ext_set (ext_set (Ext.trans e5 x6) hb4 0 (.int .i64 r1)) hb4 1 (.int .i64 r2)).alloc (.cells #[.slice A1 n1 c1', .int .i64 st, .int .i64 pt] 45); have d6 := (Ext.refl (put2 w6 w4.heap.size (.int .i64 r1) (.int .i64 r2))).alloc (.cells #[.slice A1 n1 c1', .int .i64 st, .int .i64 pt] 45); have hA3 := Runes.ext (SlR.overInt (u := .int .i64 r2) (SlR.overInt (u := .int .i64 r1) hA q0) (set_other (o' := 0) (v := .int .i64 r1) q1 (by omega))) d6; have S0 := Lib.hid (d6.cell (set_other (o' := 1) (v := .int .i64 r2) (set_same (v := .int .i64 r1) q0) (by omega))); have S1 := Lib.hid (d6.cell (set_same (v := .int .i64 r2) (set_other (o' := 0) (v := .int .i64 r1) q1 (by omega)))); have Z0 := Lib.hid (cell_new' (put2 w6 w4.heap.size (.int .i64 r1) (.int .i64 r2)) #[.slice A1 n1 c1', .int .i64 st, .int .i64 pt] 45 0 (.slice A1 n1 c1') rfl (size_put2 _ _ _ _)); have Z1 := Lib.hid (cell_new' (put2 w6 w4.heap.size (.int .i64 r1) (.int .i64 r2)) #[.slice A1 n1 c1', .int .i64 st, .int .i64 pt] 45 1 (.int .i64 st) rfl (size_put2 _ _ _ _)); have Z2 := Lib.hid (cell_new' (put2 w6 w4.heap.size (.int .i64 r1) (.int .i64 r2)) #[.slice A1 n1 c1', .int .i64 st, .int .i64 pt] 45 2 (.int .i64 pt) rfl (size_put2 _ _ _ _)))
    | (go_at_call 37; refine (C7.out _ e7).mono ?_; rintro e w8 ⟨⟨A2, n2, c2', rfl, hB⟩, x8⟩; have b0 := x8.cell S0.out; have b1 := x8.cell S1.out; have g0 := x8.cell Z0.out; have g1 := x8.cell Z1.out; have g2 := x8.cell Z2.out; have u4 := World.block_lt_of_cell? _ _ b0; have u6 := World.block_lt_of_cell? _ _ g0; have x8a := (x8.alloc (.cells #[.slice A2 n2 c2', .int .i64 st, .int .i64 pt] 45)).alloc (.cells #[.int .i64 r1, .int .i64 r2] 38); have e8 := e7.trans x8a)
    | (go_at_call 30; refine (Same_any _ _ _ _ _ _ _ _ _ (Runes.ext hA3 x8a) (Runes.ext hB (((Ext.refl w8).alloc _).alloc _))).mono ?_; rintro e w9 ⟨rfl, x9⟩; simp only [decide_true]))
  go_ret
  exact ⟨rfl, e8.trans x9⟩

include h ht in
theorem RunTells_any : Calls Try.prog 4 #[.slice A n c, .slice X m d, .int .i64 a] w fun e w' => e = .returned (.bool true) ∧ Ext w w' := by
  by_cases hc : (checkRun l t).1 = 0
  · by_cases h0 : a < 0
    · exact RunTells_low A n c l X m d t a w h ht hc h0
    · by_cases h1 : (m : Int) < a
      · exact RunTells_far A n c l X m d t a w h ht hc (by omega) h1
      · obtain ⟨k, rfl⟩ := Int.eq_ofNat_of_zero_le (by omega : 0 ≤ a)
        exact RunTells_fine A n c l X m d t k w h ht hc k rfl (by omega)
  · exact RunTells_bad A n c l X m d t a w h ht hc
end

end Go.Proofs.Ytfdkbhbnldcbmaa
