/- Walk of the law AnalyseFirsts. -/
import Derived.Test.YtfdkbhbnldcbmaaW51
import Derived.Test.YtfdkbhbnldcbmaaW16b
import Derived.Test.YtfdkbhbnldcbmaaW12
namespace Go.Proofs.Ytfdkbhbnldcbmaa
open Go.RowKit
set_option linter.unusedVariables false
set_option linter.unusedSimpArgs false

theorem rune_one (w : World) (x : Int) (t : TypeId) (h : i32 x) : Runes (w.alloc (.cells #[.int .i32 x] t)) (some ⟨w.heap.size, 0, none⟩) 1 1 [x] :=
  SlR.fresh rfl (by unfold maxLen; omega) fun k y hy => by
    match k, hy with
    | 0, hy => cases hy; exact ⟨[.int .i32 x], rfl, ⟨rfl, h⟩, fun j u hu => by match j, hu with | 0, hu => simpa using hu⟩

/-- what is not begun with -/
def restF (l : List Rule) (t : List Int) : List Int := t.filter fun x => !has (ofV (allF l)) x
theorem restF_snoc_in {l : List Rule} {t : List Int} {x : Int} (h : has (ofV (allF l)) x = true) : restF l (t ++ [x]) = restF l t := by
  unfold restF; rw [List.filter_append]; simp [h]
theorem restF_snoc_out {l : List Rule} {t : List Int} {x : Int} (h : has (ofV (allF l)) x = false) : restF l (t ++ [x]) = restF l t ++ [x] := by
  unfold restF; rw [List.filter_append]; simp [h]
theorem restF_len (l : List Rule) (t : List Int) : (restF l t).length ≤ t.length := List.length_filter_le _ _

set_option maxRecDepth 100000 in
set_option maxHeartbeats 4000000 in
theorem AnalyseFirsts_any (A : Option Addr) (n c : Nat) (l : List Rule) (X : Option Addr) (m d : Nat) (t : List Int) (w : World) (h : Rules w A n c l) (ht : Runes w X m d t) :
    Calls Try.prog 20 #[.slice A n c, .slice X m d] w fun e w' => e = .returned (.bool true) ∧ Ext w w' := by
  have C1 := Lib.hid (alive9_any w)
  by_cases hr : (wrongRules l).1 = 0
  · have C2 := Lib.hid (fun W (e : Ext w W) => Firsts_ok A n c l W (h.ext e) hr)
    by_cases he : ofE (allF l) = 0
    · have C3 := Lib.hid (fun W (e : Ext w W) => Text_any X m d t W (ht.ext e))
      by_cases hx : wrongText t = 0
      · have HL := Lib.hid (firsts_law hr he hx)
        have hG := firsts_good (wrongRules_zero hr).2.2 he
        have HG := Lib.hid hG
        have hm4 : m ≤ 4000 := by rw [← ht.len]; exact (text_parts hx).1
        have hlen := Lib.hid ht.len
        have hdm := ht.max; unfold maxLen at hdm
        have hcap := ht.cap
        have HE := Lib.hid he
        rw [hx] at C3
        have C5 : Hid (∀ W AR nR cR, Ext w W → Runes W AR nR cR (restF l t) → Calls Try.prog 36 #[.slice A n c, .slice AR nR cR] W fun e w' => (∃ A' n' c', e = .returned (.tuple #[.agg #[.slice A' n' c', .int .i64 (restF l t).length, .int .i64 0], .agg #[.int .i64 0, .int .i64 0]]) ∧ Runes w' A' n' c' (restF l t)) ∧ Ext W w') := Lib.hid (fun W AR nR cR e hR => by
          have := Run_any A n c l AR nR cR (restF l t) W (h.ext e) hR
          unfold RunR at this
          have hl1 : runAll l (restF l t) = ⟨restF l t, (restF l t).length, 0, 0⟩ := HL.out.1
          have hl2 : runF l (restF l t) = (0, 0) := HL.out.2
          rw [hl1, hl2] at this
          exact this)
        clear hr he hx hG
        go_enter Try.func20, Try.ntmps20
        go_wp2_with (first
          | (go_at_call 38; refine C1.out.mono ?_; rintro e w1 ⟨rfl, x1⟩)
          | (go_at_call 76; refine (C2.out _ x1).mono ?_; rintro e w2 ⟨⟨A2, c2, rfl, s2⟩, x2⟩; rw [HE.out]; have e2 := x1.trans x2; have e3 := e2.alloc (.cells #[.int .i64 0, .int .i64 0] 38); have S2 := Lib.hid (Spans.ext s2 ((Ext.refl w2).alloc (.cells #[.int .i64 0, .int .i64 0] 38))); have K0 := Lib.hid (cell_new w2 #[.int .i64 0, .int .i64 0] 38 0 (.int .i64 0) rfl); have K1 := Lib.hid (cell_new w2 #[.int .i64 0, .int .i64 0] 38 1 (.int .i64 0) rfl); have KW := Lib.hid (Wr.new w2 #[.int .i64 0, .int .i64 0] 38))
          | (go_at_call 24; refine (C3.out _ e3).mono ?_; rintro e w4 ⟨rfl, x4⟩))
        clear C1 C2 C3 s2
        have e4 := e3.trans x4
        have S4 := Lib.hid (S2.out.ext x4)
        have L0 := Lib.hid (x4.cell K0.out); have L1 := Lib.hid (x4.cell K1.out); have LW := Lib.hid (KW.out.ext x4)
        have hb24 : w.heap.size ≤ w2.heap.size := e2.size
        clear S2 K0 K1 KW
        go_loopw [7, 28] (fun v i wr => ∃ k : Nat, k ≤ m ∧ i = .int .i64 k ∧ OwnR rRune 21 1 w4.heap.size wr v (restF l (t.take k)) ∧ Ext w4 wr) (fun _ i _ => m - (intOf i).toNat)
        case atStart => exact ⟨0, by omega, rfl, OwnR.nil _ _ _ _ _, Ext.refl _⟩
        case round =>
          obtain ⟨k, hk, rfl, ow, hx⟩ := hrel
          by_cases hlt : k < m
          · obtain ⟨x, hxx⟩ := ht.idx hlt
            obtain ⟨b, off, rfl, _, hc, hi1, hi2⟩ := (ht.ext (e4.trans hx)).rune hxx
            have HC := Lib.hid (setsHas_any A2 _ c2 (ofV (allF l)) x wr (S4.out.ext hx) (wrong_of_good HG.out))
            have HT := Lib.hid (take_snoc hxx)
            have hrl := restF_len l (t.take k)
            rw [List.length_take] at hrl
            clear hxx
            cases hh : has (ofV (allF l)) x
            · have HQ : Hid (restF l (t.take (k + 1)) = restF l (t.take k) ++ [x]) := Lib.hid (by rw [HT.out, restF_snoc_out hh])
              have HH := Lib.hid hh; clear hh
              go_wp2_with (first
                | (go_at_call 51; refine HC.out.mono ?_; rintro e w5 ⟨rfl, x5⟩; rw [HH.out]; have f6 := (hx.trans x5).alloc (.cells #[.int .i32 x] 21); have ow6 := (ow.ext (keep_rune bot) x5).ext (keep_rune bot) ((Ext.refl w5).alloc (.cells #[.int .i32 x] 21)); have s6 := rune_one w5 x 21 ⟨hi1, hi2⟩)
                | (at_builtin
                   refine wpList_appS T_rune (by omega) rfl (.tmp 36) (.tmp 38) rfl rfl ow6 rfl s6 (fun _ _ h => h) one_rune (keep_rune bot) (bot_no _) ?_ f6.size ?_
                   · omega
                   intro v7 w7 o7 g7 hat7
                   have g8 := f6.app g7 ow6))
              go_roundw
              case rel => exact ⟨k + 1, by omega, by go_num, by rw [HQ.out]; exact o7, g8⟩
              case measure => simp [intOf]; omega
            · have HQ : Hid (restF l (t.take (k + 1)) = restF l (t.take k)) := Lib.hid (by rw [HT.out, restF_snoc_in hh])
              have HH := Lib.hid hh; clear hh
              go_wp2_with (go_at_call 51; refine HC.out.mono ?_; rintro e w5 ⟨rfl, x5⟩; rw [HH.out])
              go_roundw
              case rel => exact ⟨k + 1, by omega, by go_num, by rw [HQ.out]; exact ow.ext (keep_rune bot) x5, hx.trans x5⟩
              case measure => simp [intOf]; omega
          · rw [take_all hlen.out (by omega)] at ow
            obtain ⟨AR, cR, rfl, sR⟩ := ow.top
            have sR : Runes wr AR (restF l t).length cR (restF l t) := sR
            clear ow
            generalize hz : (restF l t).length = z at *
            clear hz
            go_wp2_with (first
              | (go_at_call 36; refine (C5.out wr AR z cR (e4.trans hx) sR).mono ?_; rintro e w6 ⟨⟨A6, n6, c6, rfl, s6⟩, x6⟩; have f6 := hx.trans x6; have y0 := f6.cell L0.out; have y1 := f6.cell L1.out; have yz := (LW.out.ext f6).2; have yl := LW.out.lt f6; have e7 := (ext_set (ext_set (e4.trans f6) hb24 0 (.int .i64 0)) hb24 1 (.int .i64 0)).alloc (.cells #[.slice A6 n6 c6, .int .i64 z, .int .i64 0] 45); have d7 := (Ext.refl (put2 w6 w2.heap.size (.int .i64 0) (.int .i64 0))).alloc (.cells #[.slice A6 n6 c6, .int .i64 z, .int .i64 0] 45); have q6 := Runes.ext (SlR.overInt (u := .int .i64 0) (SlR.overInt (u := .int .i64 0) s6 y0) (set_other (o' := 0) (v := .int .i64 0) y1 (by omega))) d7; have q7 := Runes.ext (SlR.overInt (u := .int .i64 0) (SlR.overInt (u := .int .i64 0) (sR.ext x6) y0) (set_other (o' := 0) (v := .int .i64 0) y1 (by omega))) d7; have ne6 := Nat.ne_of_lt yl; have ne6s := ne6.symm)
              | (go_at_call 30; refine (Same_any A6 AR n6 c6 z cR (restF l t) (restF l t) _ q6 q7).mono ?_; rintro e w8 ⟨rfl, x8⟩))
            go_ret
            exact ⟨by simp, e7.trans x8⟩
      · have hb : (wrongText t != 0) = true := by simpa using hx
        have HE := Lib.hid he
        clear hr he hx
        generalize wrongText t = q at *
        go_enter Try.func20, Try.ntmps20
        go_wp2_with (first
          | (go_at_call 38; refine C1.out.mono ?_; rintro e w1 ⟨rfl, x1⟩)
          | (go_at_call 76; refine (C2.out _ x1).mono ?_; rintro e w2 ⟨⟨A2, c2, rfl, s2⟩, x2⟩; rw [HE.out]; have e3 := (x1.trans x2).alloc (.cells #[.int .i64 0, .int .i64 0] 38); clear s2)
          | (go_at_call 24; refine (C3.out _ e3).mono ?_; rintro e w4 ⟨rfl, x4⟩))
        go_ret
        exact ⟨rfl, e3.trans x4⟩
    · have hb : (ofE (allF l) != 0) = true := by simpa using he
      clear hr he
      go_enter Try.func20, Try.ntmps20
      go_wp2_with (first
        | (go_at_call 38; refine C1.out.mono ?_; rintro e w1 ⟨rfl, x1⟩)
        | (go_at_call 76; refine (C2.out _ x1).mono ?_; rintro e w2 ⟨⟨A2, c2, rfl, s2⟩, x2⟩; have e3 := (x1.trans x2).alloc (.cells #[.int .i64 (ofE (allF l)), .int .i64 0] 38); clear s2))
      go_ret
      exact ⟨rfl, e3⟩
  · have C2 := Lib.hid (fun W (e : Ext w W) => Firsts_bad A n c l W (h.ext e) hr)
    have hb : ((wrongRules l).1 != 0) = true := by simpa using hr
    clear hr
    generalize (wrongRules l).1 = p1 at *
    generalize (wrongRules l).2 = p2 at *
    go_enter Try.func20, Try.ntmps20
    go_wp2_with (first
      | (go_at_call 38; refine C1.out.mono ?_; rintro e w1 ⟨rfl, x1⟩)
      | (go_at_call 76; refine (C2.out _ x1).mono ?_; rintro e w2 ⟨rfl, x2⟩; have e3 := (x1.trans x2).alloc (.cells #[.int .i64 p1, .int .i64 p2] 38)))
    go_ret
    exact ⟨rfl, e3⟩

end Go.Proofs.Ytfdkbhbnldcbmaa
