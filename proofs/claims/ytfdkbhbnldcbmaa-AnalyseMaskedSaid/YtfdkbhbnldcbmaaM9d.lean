/- Walk of the law AnalyseMasked. -/
import Derived.Test.YtfdkbhbnldcbmaaW16b
import Derived.Test.YtfdkbhbnldcbmaaW22
import Derived.Test.YtfdkbhbnldcbmaaW12
import Derived.Test.YtfdkbhbnldcbmaaM9b
namespace Go.Proofs.Ytfdkbhbnldcbmaa
open Go.RowKit
set_option linter.unusedVariables false
set_option linter.unusedSimpArgs false

/-- a rule whose parts lie in some blocks -/
def rRuleO (ok : Nat → Prop) : World → List Value → Rule → Prop := fun w vs r =>
  ∃ s f A1 n1 c1 A2 n2 c2 A3 n3 c3 A4 n4 c4 k, vs = [.bool s, .bool f, .slice A1 n1 c1, .slice A2 n2 c2, .slice A3 n3 c3, .slice A4 n4 c4, .int .i64 k] ∧
    r.start = s ∧ r.fin = f ∧ SlR (rSl rSpan 2 ok) 1 ok w A1 n1 c1 r.before ∧ SlR (rSl rSpan 2 ok) 1 ok w A2 n2 c2 r.source ∧ SlR (rSl rSpan 2 ok) 1 ok w A3 n3 c3 r.after ∧ SlR rRune 1 ok w A4 n4 c4 r.target ∧ r.cursor = k ∧ i64 k
theorem keep_ruleO (ok : Nat → Prop) : Keep (rRuleO ok) ok := by
  intro w w' vs r ha ⟨s, f, A1, n1, c1, A2, n2, c2, A3, n3, c3, A4, n4, c4, k, e, h1, h2, h3, h4, h5, h6, h7, h8⟩
  exact ⟨s, f, A1, n1, c1, A2, n2, c2, A3, n3, c3, A4, n4, c4, k, e, h1, h2, h3.keep (keep_sl (keep_span ok)) ha, h4.keep (keep_sl (keep_span ok)) ha, h5.keep (keep_sl (keep_span ok)) ha, h6.keep (keep_rune ok) ha, h7, h8⟩
theorem rRuleO_top {ok : Nat → Prop} {w : World} {vs : List Value} {r : Rule} (h : rRuleO ok w vs r) : rRule w vs r := by
  obtain ⟨s, f, A1, n1, c1, A2, n2, c2, A3, n3, c3, A4, n4, c4, k, e, h1, h2, h3, h4, h5, h6, h7, h8⟩ := h
  exact ⟨s, f, A1, n1, c1, A2, n2, c2, A3, n3, c3, A4, n4, c4, k, e, ⟨h1, h2, sets_top h3, sets_top h4, sets_top h5, h6.mono (fun _ _ h => h) (fun _ _ => trivial), h7, h8⟩⟩
theorem one_ruleO (ok : Nat → Prop) : One (rRuleO ok) := fun w vs r h => one_rule w vs r (rRuleO_top h)
theorem rules_lt {w : World} {A : Option Addr} {n c : Nat} {l : List Rule} (h : Rules w A n c l) : SlR (rRuleO (fun b => b < w.heap.size)) 7 (fun b => b < w.heap.size) w A n c l := by
  refine (SlR.lt (by omega) h).mono (fun vs r hr => ?_) (fun _ hb => hb.2)
  obtain ⟨s, f, A1, n1, c1, A2, n2, c2, A3, n3, c3, A4, n4, c4, k, e, hv⟩ := hr
  exact ⟨s, f, A1, n1, c1, A2, n2, c2, A3, n3, c3, A4, n4, c4, k, e, hv.start, hv.fin, sets_lt hv.before, sets_lt hv.source, sets_lt hv.after, (SlR.lt (by omega) hv.target).mono (fun _ _ h => h) (fun _ hb => hb.2), hv.cursor, hv.bound⟩

set_option maxRecDepth 100000 in
set_option maxHeartbeats 8000000 in
theorem AnalyseMasked_ok (A : Option Addr) (n c : Nat) (l : List Rule) (X : Option Addr) (m d : Nat) (t : List Int) (w : World) (h : Rules w A n c l) (ht : Runes w X m d t) (hr : (wrongRules l).1 = 0) :
    Calls Try.prog 9 #[.slice A n c, .slice X m d] w fun e w' => e = .returned (.bool true) ∧ Ext w w' := by
  have hl2 := (wrongRules_zero hr).2.1
  rw [h.len] at hl2
  have hcap := h.cap
  have hdcap := ht.cap
  have hdm := ht.max; unfold maxLen at hdm
  have hlen := Lib.hid h.len; have htl := Lib.hid ht.len
  have C1 := Lib.hid (alive9_any w)
  have C2 := Lib.hid (fun W (e : Ext w W) => Masked_ok A n c l W (h.ext e) hr)
  have C3 := Lib.hid (fun W (e : Ext w W) => Run_any A n c l X m d t W (h.ext e) (ht.ext e))
  have C4 := Lib.hid (fun W (e : Ext w W) U k q u (hu : Rules W U k q u) => Run_any U k q u X m d t W hu (ht.ext e))
  have C5 := Lib.hid (fun W (e : Ext w W) (k : Nat) => Which_any A n c l X m d t k W (h.ext e) (ht.ext e))
  have hB := Lib.hid (fun W (e : Ext w W) => (rules_lt h).ext (keep_ruleO _) e)
  have HMR := Lib.hid (fun k (hm : isMasked l k = true) => masked_run (t := t) hr hm)
  have hML := maskedTo_len l n
  have HML := Lib.hid (fun i (hi : i ∈ maskedTo l l.length) => maskedTo_mem hi)
  unfold MaskedR at C2
  rw [h.len] at C2 HML
  unfold RunR at C3 C4
  generalize maskedTo l n = ml at *
  clear h ht hr
  generalize hM : ml.length = M at *
  have HM := Lib.hid hM; clear hM
  go_enter Try.func9, Try.ntmps9
  go_wp2_with (first
    | (go_at_call 38; refine C1.out.mono ?_; rintro e w1 ⟨rfl, x1⟩)
    | (go_at_call 45; refine (C2.out _ x1).mono ?_; rintro e w2 ⟨⟨AO, cO, rfl, sO⟩, x2⟩))
  have e3 := (x1.trans x2).alloc (.cells #[.int .i64 0, .int .i64 0] 38)
  have sO3 := (sO.mono (ok' := top) (fun _ _ h => h) (fun _ _ => trivial)).ext (keep_int _) ((Ext.refl w2).alloc (.cells #[.int .i64 0, .int .i64 0] 38))
  have hcO := sO3.cap; have hmO := sO3.max; unfold maxLen at hmO
  clear sO C1 C2
  generalize w2.alloc (.cells #[.int .i64 0, .int .i64 0] 38) = w3 at *
  go_loopw [29] (fun i wr => ∃ q : Nat, q ≤ M ∧ i = .int .i64 q ∧ Ext w3 wr) (fun i _ => M - (intOf i).toNat)
  case atStart => exact ⟨0, by omega, rfl, Ext.refl _⟩
  case round =>
    obtain ⟨q, hq, rfl, hx⟩ := hrel
    obtain ⟨wo, rfl⟩ : ∃ wo : World, wo = wr := ⟨_, rfl⟩
    have ex := e3.trans hx
    by_cases hlt : q < M
    · obtain ⟨y, hyy⟩ := sO3.idx hlt
      obtain ⟨k, hkk, hky⟩ : ∃ k : Nat, ml[q]? = some k ∧ y = k := by
        rw [List.getElem?_map] at hyy
        cases hz : ml[q]? with
        | none => rw [hz] at hyy; cases hyy
        | some k => rw [hz] at hyy; exact ⟨k, rfl, by simpa using hyy.symm⟩
      obtain ⟨b, off, rfl, ⟨_, hne⟩, hcell, _⟩ := (sO3.ext (keep_int _) hx).int hyy
      obtain ⟨hkn, hmk⟩ := HML.out k (List.mem_of_getElem? hkk)
      subst hky
      have HMK := Lib.hid hmk
      obtain ⟨hm1, hm2⟩ := HMR.out k hmk
      have HR1 := Lib.hid hm1; have HR2 := Lib.hid hm2
      clear hyy hkk hmk hm1 hm2
      have t1 : decide ((k : Int) < 0) = false := by simp
      have t2 : decide ((n : Int) ≤ (k : Int)) = false := by simp; omega
      have hs1 := fun W => run_cut_h T_rule A n c (k : Int) k rfl (by omega) W
      have hs2 := fun W => run_cut_l T_rule A n c ((k : Int) + 1) (k + 1) (by omega) (by omega) W
      have hw : IntKind.i64.wrap ((k : Int) + 1) = (k : Int) + 1 := IntWalk.i64_in _ (by omega)
      have o2 := OwnR.empty (rRuleO (fun b => b < w.heap.size)) 25 7 wo.heap.size wo.drew (Nat.le_refl _)
      have f2 := ((Ext.refl wo).drew).alloc (.cells #[] 25)
      have hbo : w.heap.size ≤ wo.heap.size := ex.size
      have q1 := (hB.out _ (ex.trans f2)).take (hi := k) (by omega)
      go_wp2_with fail
      go_region_held3 (fun w' => True)
        (trivial)
        (first
          | (refine step_appS T_rule (by omega) rfl (.tmp 41) (.tmp 44) rfl rfl o2 rfl q1 (fun _ _ h => h) (one_ruleO _) (keep_ruleO _) (fun g hg hlt => ?_) ?_ f2.size ?_
             · have := (o2.lt g hg).1; omega
             · simp; omega
             intro v5 w5 o5 g5 hat5
             have f5 := f2.app g5 o2
             simp only [List.nil_append] at o5
             have q2 := (hB.out _ (ex.trans f5)).drop (lo := k + 1) (by omega))
          | (refine step_appS T_rule (by omega) rfl (.tmp 45) (.tmp 49) rfl rfl o5 rfl q2 (fun _ _ h => h) (one_ruleO _) (keep_ruleO _) (fun g hg hlt => ?_) ?_ f5.size ?_
             · have := (o5.lt g hg).1; omega
             · rw [List.length_take, hlen.out]; omega
             intro v6 w6 o6 g6 hat6
             have f6 := f5.app g6 o5))
      clear hw q1 q2 o5 o2 f2 f5 g5 g6 hat5 hat6
      generalize l.take k ++ l.drop (k + 1) = u at *
      obtain ⟨AU, cU, rfl, sU⟩ := o6.top
      have hU : Rules w6 AU u.length cU u := sU.mono (fun _ _ h => rRuleO_top h) (fun _ _ => trivial)
      clear o6 sU
      have C6 := Lib.hid (fun W (e : Ext w W) (x : Ext w6 W) => C4.out W e AU u.length cU u (hU.ext x))
      rw [HR1.out, HR2.out] at C6
      clear hU
      generalize u.length = z at *
      generalize (runAll l t).steps = st at *
      generalize (runAll l t).put = pt at *
      generalize (runAll l t).text = tx at *
      generalize (runF l t).1 = r1 at *
      generalize (runF l t).2 = r2 at *
      have e6 := ex.trans f6
      go_upto_region 14 with (first
        | (go_at_call 36; ((with_reducible refine (C3.out _ e6).mono ?_); rintro e w7 ⟨⟨A1, n1, c1, rfl, hA⟩, x7⟩; have d7 := ((Ext.refl w7).alloc (.cells #[.slice A1 n1 c1, .int .i64 st, .int .i64 pt] 45)).alloc (.cells #[.int .i64 r1, .int .i64 r2] 38)))
        | (go_at_call 36; ((with_reducible refine (C6.out _ ((e6.trans x7).trans d7) (x7.trans d7)).mono ?_); rintro e w8 ⟨⟨A2, n2, c2, rfl, hA2⟩, x8⟩)))
      have dA := (Ext.refl (w7.alloc (.cells #[.slice A1 n1 c1, .int .i64 st, .int .i64 pt] 45))).alloc (.cells #[.int .i64 r1, .int .i64 r2] 38)
      have z0 := x8.cell (dA.cell (cell_new w7 #[.slice A1 n1 c1, .int .i64 st, .int .i64 pt] 45 0 (.slice A1 n1 c1) rfl))
      have z1 := x8.cell (dA.cell (cell_new w7 #[.slice A1 n1 c1, .int .i64 st, .int .i64 pt] 45 1 (.int .i64 st) rfl))
      have z2 := x8.cell (dA.cell (cell_new w7 #[.slice A1 n1 c1, .int .i64 st, .int .i64 pt] 45 2 (.int .i64 pt) rfl))
      have z3 := x8.cell (cell_new (w7.alloc (.cells #[.slice A1 n1 c1, .int .i64 st, .int .i64 pt] 45)) #[.int .i64 r1, .int .i64 r2] 38 0 (.int .i64 r1) rfl)
      have z4 := x8.cell (cell_new (w7.alloc (.cells #[.slice A1 n1 c1, .int .i64 st, .int .i64 pt] 45)) #[.int .i64 r1, .int .i64 r2] 38 1 (.int .i64 r2) rfl)
      rw [World.size_alloc] at z3 z4
      have zl0 := World.block_lt_of_cell? _ _ z0
      have zl3 := World.block_lt_of_cell? _ _ z3
      have d8 := ((Ext.refl w8).alloc (.cells #[.slice A2 n2 c2, .int .i64 st, .int .i64 pt] 45)).alloc (.cells #[.int .i64 r1, .int .i64 r2] 38)
      have d78 := (d7.trans x8).trans d8
      have e8 := (e6.trans x7).trans d78
      clear C3 C4 C6 dA hB d7
      go_wp2_with (go_at_call 30; refine (Same_any _ _ _ _ _ _ _ _ _ (Runes.ext hA d78) (Runes.ext hA2 d8)).mono ?_; rintro e w9 ⟨rfl, x9⟩; simp only [decide_true])
      have e39 := (((hx.trans f6).trans x7).trans d78).trans x9
      have e9 := e8.trans x9
      clear z0 z1 z2 z3 z4 zl0 zl3 hA hA2 x8 d8 d78 e8 x9 x7 f6 hcell
      go_loopw [90] (fun i wr => ∃ a : Nat, a ≤ m ∧ i = .int .i64 a ∧ Ext w9 wr) (fun i _ => m - (intOf i).toNat)
      case atStart => exact ⟨0, by omega, rfl, Ext.refl _⟩
      case round =>
        obtain ⟨a, ha, rfl, hxi⟩ := hrel
        by_cases hai : a < m
        · have C7 := Lib.hid (C5.out wr (e9.trans hxi) a)
          by_cases hz : (whichF l t a).1 = 0
          · have HF := Lib.hid (whichF_zero hz).1
            have b1 : (whichV l t a == (k : Int)) = false := by
              have h1 := masked_not_first (t := t) (x := a) (by rw [htl.out]; omega) HMK.out
              rw [whichV_in hz]
              simpa using h1
            clear hz
            generalize whichV l t a = v at *
            go_wp2_with (go_at_call 34; refine C7.out.mono ?_; rintro e w10 ⟨rfl, x10⟩; rw [HF.out])
            go_roundw
            case rel => exact ⟨a + 1, by omega, by go_num, (hxi.trans x10).alloc _⟩
            case measure => simp [intOf]; omega
          · have b1 : ((whichF l t a).1 == 0) = false := by simpa using hz
            clear hz
            generalize whichV l t a = v at *
            generalize (whichF l t a).1 = r3 at *
            generalize (whichF l t a).2 = r4 at *
            go_wp2_with (go_at_call 34; refine C7.out.mono ?_; rintro e w10 ⟨rfl, x10⟩)
            go_roundw
            case rel => exact ⟨a + 1, by omega, by go_num, (hxi.trans x10).alloc _⟩
            case measure => simp [intOf]; omega
        · go_wp2
          go_roundw
          case rel => exact ⟨q + 1, by omega, by go_num, e39.trans hxi⟩
          case measure => simp [intOf]; omega
    · go_wp2
      go_ret
      exact ⟨rfl, ex⟩

theorem AnalyseMasked_any (A : Option Addr) (n c : Nat) (l : List Rule) (X : Option Addr) (m d : Nat) (t : List Int) (w : World) (h : Rules w A n c l) (ht : Runes w X m d t) :
    Calls Try.prog 9 #[.slice A n c, .slice X m d] w fun e w' => e = .returned (.bool true) ∧ Ext w w' := by
  by_cases hr : (wrongRules l).1 = 0
  · exact AnalyseMasked_ok A n c l X m d t w h ht hr
  · have C1 := Lib.hid (alive9_any w)
    have C2 := Lib.hid (fun W (e : Ext w W) => Masked_bad A n c l W (h.ext e) hr)
    have b1 : ((wrongRules l).1 != 0) = true := by simpa using hr
    clear hr
    generalize (wrongRules l).1 = r1 at *
    generalize (wrongRules l).2 = r2 at *
    go_enter Try.func9, Try.ntmps9
    go_wp2_with (first
      | (go_at_call 38; refine C1.out.mono ?_; rintro e w1 ⟨rfl, x1⟩)
      | (go_at_call 45; refine (C2.out _ x1).mono ?_; rintro e w2 ⟨rfl, x2⟩))
    go_ret
    exact ⟨rfl, (x1.trans x2).alloc _⟩

end Go.Proofs.Ytfdkbhbnldcbmaa
