/- Walk: whether it is sure that rules undo others, by the document (written by gen/gw76.py). -/
import Derived.Test.YtfdkbhbnldcbmaaW75
import Derived.Test.YtfdkbhbnldcbmaaW56
namespace Go.Proofs.Ytfdkbhbnldcbmaa
open Go.RowKit
set_option linter.unusedVariables false
set_option linter.unusedSimpArgs false

section
variable {P : Program} {α : Type} {R : World → List Value → α → Prop} {e : TypeId} {sz base : Nat} {w : World} {v : Value} {l : List α}
theorem step_appG {t : TypeId} {bytes : Nat} (T : ElemT P t e sz bytes) (hby : bytes ≤ 1000) {ops : Array Oper} {o : Oper} {a : Act} {K : Act → World → Prop} {Q : Exit → Act → World → Prop} {E : Prop} (hw : Region.wanted o (yielded ops a.tmps) = true) (s x : Operand)
    (ho : o.op = .call { callee := .builtin .append, args := #[s, x], argTypes := #[t, t] }) (hs : a.eval s = v) (hown : OwnR R e sz base w v l) {A : Option Addr} {m c : Nat} (hx : a.eval x = .slice A m c) {l2 : List α} {R2 : World → List Value → α → Prop} {ok2 : Nat → Prop}
    (hsrc : SlR R2 sz ok2 w A m c l2) (hR : ∀ vs x, R2 w vs x → R w vs x) (one : One R) {okk : Nat → Prop} (hk : Keep R okk) (hok : ∀ g, v.ownBlock = some g → ¬ okk g)
    (hb : l.length + m ≤ 60000) (hbase : base ≤ w.heap.size)
    (h : ∀ v' w', OwnR R e sz base w' v' (l ++ l2) → w.grownBy w' v.ownBlock → (v'.ownBlock = v.ownBlock ∨ v'.ownBlock = some w.heap.size) → K (a.put o.dst v') w') :
    if Region.wanted o (yielded ops a.tmps) = true then Oper.wp P o a w K Q else E := by
  rw [if_pos hw]
  exact wp_app T s x ho hs hown hx hsrc hR one hk hok (small_bytes hb hby) (small_len hb) hbase h
end

section
variable (A : Option Addr) (n c : Nat) (f : List Rule) (A' : Option Addr) (n' c' : Nat) (b : List Rule) (B : Option Addr) (m d : Nat) (ds : List Sp) (w : World) (hf : Rules w A n c f) (hb : Rules w A' n' c' b) (hd : Spans w B m d ds)
set_option maxRecDepth 100000 in
set_option maxHeartbeats 4000000 in
include hf in
theorem refSure1 (h0 : (wrongRules f).1 ≠ 0) : Calls Try.prog 49 #[.slice A n c, .slice A' n' c', .slice B m d] w fun e w' => SureR f b ds e ∧ Ext w w' := by
  have C1 := Lib.hid (refWrongs_any A n c f w hf)
  have HE := Lib.hid (pairE1 (b := b) (d := ds) h0)
  have hn : ((wrongRules f).1 != 0) = true := by simpa using h0
  clear h0
  generalize (wrongRules f).1 = p1 at *
  generalize (wrongRules f).2 = p2 at *
  go_enter Try.func49, Try.ntmps49
  go_wp2_with (first
    | (go_at_call 32; ((with_reducible refine C1.out.mono ?_); rintro e w1 ⟨rfl, x1⟩; have e1 := x1.alloc (.cells #[.int .i64 p1, .int .i64 (p2 : Int)] 38))))
  go_quiet (fail)
  go_wp2
  refine bodyPost_ret (v := .tuple #[.bool false, .int .i64 p1]) (by simp [results, Try.results49, go_sem]) rfl ?_
  exact ⟨SureR.of HE.out.1 HE.out.2, e1.drewN _⟩

set_option maxRecDepth 100000 in
set_option maxHeartbeats 4000000 in
include hf hb in
theorem refSure2 (h0 : (wrongRules f).1 = 0) (h1 : (wrongRules b).1 ≠ 0) : Calls Try.prog 49 #[.slice A n c, .slice A' n' c', .slice B m d] w fun e w' => SureR f b ds e ∧ Ext w w' := by
  have C1 := Lib.hid (refWrongs_any A n c f w hf)
  rw [(wrongRules_zero h0).1] at C1
  have C2 := Lib.hid (fun W (e : Ext w W) => refWrongs_any A' n' c' b W (hb.ext e))
  have HE := Lib.hid (pairE2 (d := ds) h0 h1)
  have hn : ((wrongRules b).1 != 0) = true := by simpa using h1
  clear h0 h1
  generalize (wrongRules b).1 = p1 at *
  generalize (wrongRules b).2 = p2 at *
  go_enter Try.func49, Try.ntmps49
  go_wp2_with (first
    | (go_at_call 32; ((with_reducible refine C1.out.mono ?_); rintro e w1 ⟨rfl, x1⟩; have e1 := x1.alloc (.cells #[.int .i64 0, .int .i64 0] 38)))
    | (go_at_call 32; ((with_reducible refine (C2.out _ e1).mono ?_); rintro e w2 ⟨rfl, x2⟩; have e2 := (e1.trans x2).alloc (.cells #[.int .i64 p1, .int .i64 (p2 : Int)] 38))))
  go_quiet (fail)
  go_wp2
  refine bodyPost_ret (v := .tuple #[.bool false, .int .i64 p1]) (by simp [results, Try.results49, go_sem]) rfl ?_
  exact ⟨SureR.of HE.out.1 HE.out.2, e2.drewN _⟩

set_option maxRecDepth 100000 in
set_option maxHeartbeats 4000000 in
include hf hb hd in
theorem refSure3 (h0 : (wrongRules f).1 = 0) (h1 : (wrongRules b).1 = 0) (h2 : wrongSet ds ≠ 0) : Calls Try.prog 49 #[.slice A n c, .slice A' n' c', .slice B m d] w fun e w' => SureR f b ds e ∧ Ext w w' := by
  have C1 := Lib.hid (refWrongs_any A n c f w hf)
  rw [(wrongRules_zero h0).1] at C1
  have C2 := Lib.hid (fun W (e : Ext w W) => refWrongs_any A' n' c' b W (hb.ext e))
  rw [(wrongRules_zero h1).1] at C2
  have C3 := Lib.hid (fun W (e : Ext w W) => refCountP_any B m d ds W (hd.ext e))
  have HE := Lib.hid (pairE3 h0 h1 h2)
  have hn : (wrongSet ds != 0) = true := by simpa using h2
  clear h0 h1 h2
  generalize wrongSet ds = p1 at *
  go_enter Try.func49, Try.ntmps49
  go_wp2_with (first
    | (go_at_call 32; ((with_reducible refine C1.out.mono ?_); rintro e w1 ⟨rfl, x1⟩; have e1 := x1.alloc (.cells #[.int .i64 0, .int .i64 0] 38)))
    | (go_at_call 32; ((with_reducible refine (C2.out _ e1).mono ?_); rintro e w2 ⟨rfl, x2⟩; have e2 := (e1.trans x2).alloc (.cells #[.int .i64 0, .int .i64 0] 38)))
    | (go_at_call 59; refine (C3.out _ e2).mono ?_; rintro e w3 ⟨rfl, x3⟩; have e3 := e2.trans x3))
  refine bodyPost_ret (v := .tuple #[.bool false, .int .i64 p1]) (by simp [results, Try.results49, go_sem]) rfl ?_
  exact ⟨SureR.of HE.out.1 HE.out.2, e3⟩

set_option maxRecDepth 100000 in
set_option maxHeartbeats 4000000 in
include hf hb hd in
theorem refSure4 (h0 : (wrongRules f).1 = 0) (h1 : (wrongRules b).1 = 0) (h2 : wrongSet ds = 0) (h3 : 40 < countL ds) : Calls Try.prog 49 #[.slice A n c, .slice A' n' c', .slice B m d] w fun e w' => SureR f b ds e ∧ Ext w w' := by
  have C1 := Lib.hid (refWrongs_any A n c f w hf)
  rw [(wrongRules_zero h0).1] at C1
  have C2 := Lib.hid (fun W (e : Ext w W) => refWrongs_any A' n' c' b W (hb.ext e))
  rw [(wrongRules_zero h1).1] at C2
  have C3 := Lib.hid (fun W (e : Ext w W) => refCountP_any B m d ds W (hd.ext e))
  have hcv : countV ds = countL ds := by unfold countV; rw [if_neg (by simpa using h2)]
  rw [hcv, h2] at C3
  have HE := Lib.hid (pairE4 h0 h1 h2 h3)
  have hn : decide (40 < countL ds) = true := by simpa using h3
  clear h0 h1 h2 h3 hcv
  generalize countL ds = z at *
  go_enter Try.func49, Try.ntmps49
  go_wp2_with (first
    | (go_at_call 32; ((with_reducible refine C1.out.mono ?_); rintro e w1 ⟨rfl, x1⟩; have e1 := x1.alloc (.cells #[.int .i64 0, .int .i64 0] 38)))
    | (go_at_call 32; ((with_reducible refine (C2.out _ e1).mono ?_); rintro e w2 ⟨rfl, x2⟩; have e2 := (e1.trans x2).alloc (.cells #[.int .i64 0, .int .i64 0] 38)))
    | (go_at_call 59; refine (C3.out _ e2).mono ?_; rintro e w3 ⟨rfl, x3⟩; have e3 := e2.trans x3))
  refine bodyPost_ret (v := .tuple #[.bool false, .int .i64 4]) (by simp [results, Try.results49, go_sem]) rfl ?_
  exact ⟨SureR.of HE.out.1 HE.out.2, e3⟩

set_option maxRecDepth 100000 in
set_option maxHeartbeats 4000000 in
include hf hb hd in
theorem refSure5 (h0 : (wrongRules f).1 = 0) (h1 : (wrongRules b).1 = 0) (h2 : wrongSet ds = 0) (h3 : ¬ 40 < countL ds) (hp : (plainR f && plainR b) = false) : Calls Try.prog 49 #[.slice A n c, .slice A' n' c', .slice B m d] w fun e w' => SureR f b ds e ∧ Ext w w' := by
  have C1 := Lib.hid (refWrongs_any A n c f w hf)
  rw [(wrongRules_zero h0).1] at C1
  have C2 := Lib.hid (fun W (e : Ext w W) => refWrongs_any A' n' c' b W (hb.ext e))
  rw [(wrongRules_zero h1).1] at C2
  have C3 := Lib.hid (fun W (e : Ext w W) => refCountP_any B m d ds W (hd.ext e))
  have hcv : countV ds = countL ds := by unfold countV; rw [if_neg (by simpa using h2)]
  rw [hcv, h2] at C3
  have C4 := Lib.hid (fun W (e : Ext w W) => refPlain_any A n c f W (hf.ext e))
  have C5 := Lib.hid (fun W (e : Ext w W) => refPlain_any A' n' c' b W (hb.ext e))
  have hE := pairE5 h0 h1 h2 h3
  rw [hp, Bool.false_and] at hE
  have HE := Lib.hid hE
  have hn : decide (40 < countL ds) = false := by simpa using h3
  clear h0 h1 h2 h3 hcv hE
  generalize countL ds = z at *
  generalize plainR f = q1 at *
  generalize plainR b = q2 at *
  cases q1
  · clear hp
    go_enter Try.func49, Try.ntmps49
    go_wp2_with (first
      | (go_at_call 32; ((with_reducible refine C1.out.mono ?_); rintro e w1 ⟨rfl, x1⟩; have e1 := x1.alloc (.cells #[.int .i64 0, .int .i64 0] 38)))
      | (go_at_call 32; ((with_reducible refine (C2.out _ e1).mono ?_); rintro e w2 ⟨rfl, x2⟩; have e2 := (e1.trans x2).alloc (.cells #[.int .i64 0, .int .i64 0] 38)))
      | (go_at_call 59; refine (C3.out _ e2).mono ?_; rintro e w3 ⟨rfl, x3⟩; have e3 := e2.trans x3)
      | (go_at_call 110; ((with_reducible refine (C4.out _ e3).mono ?_); rintro e w4 ⟨rfl, x4⟩; have e4 := e3.trans x4)))
    refine bodyPost_ret (v := .tuple #[.bool false, .int .i64 0]) (by simp [results, Try.results49, go_sem]) rfl ?_
    exact ⟨SureR.of HE.out.1 HE.out.2, e4⟩
  · rw [Bool.true_and] at hp
    subst hp
    go_enter Try.func49, Try.ntmps49
    go_wp2_with (first
      | (go_at_call 32; ((with_reducible refine C1.out.mono ?_); rintro e w1 ⟨rfl, x1⟩; have e1 := x1.alloc (.cells #[.int .i64 0, .int .i64 0] 38)))
      | (go_at_call 32; ((with_reducible refine (C2.out _ e1).mono ?_); rintro e w2 ⟨rfl, x2⟩; have e2 := (e1.trans x2).alloc (.cells #[.int .i64 0, .int .i64 0] 38)))
      | (go_at_call 59; refine (C3.out _ e2).mono ?_; rintro e w3 ⟨rfl, x3⟩; have e3 := e2.trans x3)
      | (go_at_call 110; ((with_reducible refine (C4.out _ e3).mono ?_); rintro e w4 ⟨rfl, x4⟩; have e4 := e3.trans x4))
      | (go_at_call 110; ((with_reducible refine (C5.out _ e4).mono ?_); rintro e w5 ⟨rfl, x5⟩; have e5 := e4.trans x5)))
    refine bodyPost_ret (v := .tuple #[.bool false, .int .i64 0]) (by simp [results, Try.results49, go_sem]) rfl ?_
    exact ⟨SureR.of HE.out.1 HE.out.2, e5⟩

set_option maxRecDepth 100000 in
set_option maxHeartbeats 4000000 in
include hf hb hd in
theorem refSure_main (h0 : (wrongRules f).1 = 0) (h1 : (wrongRules b).1 = 0) (h2 : wrongSet ds = 0) (h3 : ¬ 40 < countL ds) (p1 : plainR f = true) (p2 : plainR b = true) : Calls Try.prog 49 #[.slice A n c, .slice A' n' c', .slice B m d] w fun e w' => SureR f b ds e ∧ Ext w w' := by
  have C1 := Lib.hid (refWrongs_any A n c f w hf)
  rw [(wrongRules_zero h0).1] at C1
  have C2 := Lib.hid (fun W (e : Ext w W) => refWrongs_any A' n' c' b W (hb.ext e))
  rw [(wrongRules_zero h1).1] at C2
  have C3 := Lib.hid (fun W (e : Ext w W) => refCountP_any B m d ds W (hd.ext e))
  have okf := (wrongRules_zero h0).2.2
  have okb := (wrongRules_zero h1).2.2
  have hG := good_of h2
  have hul := units_len (d := ds) (fun x hx => hG.rng x hx)
  have hcv : countV ds = countL ds := by unfold countV; rw [if_neg (by simpa using h2)]
  rw [hcv, h2, ← hul] at C3
  have C4 := Lib.hid (fun W (e : Ext w W) => refPlain_any A n c f W (hf.ext e))
  have C5 := Lib.hid (fun W (e : Ext w W) => refPlain_any A' n' c' b W (hb.ext e))
  rw [p1] at C4; rw [p2] at C5
  have hu40 : (unitsL ds).length ≤ 40 := by omega
  have C6 := Lib.hid (fun W (e : Ext w W) => refAll_any B m d ds W (hd.ext e) (fun x hx => hG.rng x hx) hu40)
  have C7 := Lib.hid (fun W (e : Ext w W) => refReachB_any A' n' c' b W (hb.ext e) okb)
  have HE := pairE5 h0 h1 h2 h3
  rw [p1, p2, Bool.and_true, Bool.true_and] at HE
  have HEE := Lib.hid HE
  have OKF := Lib.hid okf; have OKB := Lib.hid okb
  have HPB : Hid (pairB f b (unitsL ds) = (!(blocked f (unitsL ds)) && imgsOk f (unitsL ds) && ((imgs f (unitsL ds)).zip (unitsL ds)).all (outerB b (reachB b 0 0).2 (imgs f (unitsL ds))))) := Lib.hid rfl
  have hur : ∀ u ∈ unitsL ds, i32 u := fun u hu => by have := units_rng (fun x hx => hG.rng x hx) hu; unfold i32; omega
  have HUR := Lib.hid hur
  have hrch := (reachB_le b 0 0 okb (by omega) (by omega)).2
  generalize unitsL ds = us at *
  generalize (reachB b 0 0).1 = r1 at *
  generalize (reachB b 0 0).2 = rch at *
  have HBLK : Hid (blocked f us = f.any fun r => decide (1 < r.source.length) && canR r us) := Lib.hid rfl
  have HIMO : Hid (imgsOk f us = us.all fun u => !(imgOf f u).isEmpty) := Lib.hid rfl
  obtain ⟨N, hN⟩ : ∃ N, us.length = N := ⟨_, rfl⟩
  have HN := Lib.hid hN
  rw [hN] at C3 hu40
  have hN40 : decide (40 < (N : Int)) = false := by simp; omega
  have hmA := hf.max; unfold maxLen at hmA
  have hcA := hf.cap
  have hlen := Lib.hid hf.len
  clear h0 h1 h2 h3 okf okb hG hul hcv p1 p2 HE hur hN
  go_enter Try.func49, Try.ntmps49
  go_wp2_with (first
    | (go_at_call 32; ((with_reducible refine C1.out.mono ?_); rintro e w1 ⟨rfl, x1⟩; have e1 := x1.alloc (.cells #[.int .i64 0, .int .i64 0] 38)))
    | (go_at_call 32; ((with_reducible refine (C2.out _ e1).mono ?_); rintro e w2 ⟨rfl, x2⟩; have e2 := (e1.trans x2).alloc (.cells #[.int .i64 0, .int .i64 0] 38)))
    | (go_at_call 59; refine (C3.out _ e2).mono ?_; rintro e w3 ⟨rfl, x3⟩; have e3 := e2.trans x3)
    | (go_at_call 110; ((with_reducible refine (C4.out _ e3).mono ?_); rintro e w4 ⟨rfl, x4⟩; have e4 := e3.trans x4))
    | (go_at_call 110; ((with_reducible refine (C5.out _ e4).mono ?_); rintro e w5 ⟨rfl, x5⟩; have e5 := e4.trans x5))
    | (go_at_call 105; refine (C6.out _ e5).mono ?_; rintro e w6 ⟨vU, rfl, oU, x6⟩; obtain ⟨AU, cU, rfl, sU⟩ := oU.top; have e6 := e5.trans x6))
  rw [HN.out] at sU
  try rw [HN.out]
  have HSU := Lib.hid sU
  have hmU := sU.max; have hcU := sU.cap; unfold maxLen at hmU
  clear sU oU x1 x2 x3 x4 x5 x6 e1 e2 e3 e4 e5 C1 C2 C3 C4 C5 C6
  go_loopw [62] (fun i wr => ∃ k : Nat, k ≤ n ∧ i = .int .i64 k ∧ Hid (blocked f us = (f.drop k).any fun r => decide (1 < r.source.length) && canR r us) ∧ Ext w6 wr) (fun i _ => n - (intOf i).toNat)
  case atStart => exact ⟨0, by omega, rfl, HBLK, Ext.refl _⟩
  case round =>
    obtain ⟨k, hk, rfl, HK, hx⟩ := hrel
    by_cases hlt : k < n
    · obtain ⟨r, hrr⟩ := hf.idx hlt
      obtain ⟨bb, off, s, fl, A1, n1, c1, A2, n2, c2, A3, n3, c3, A4, n4, c4, q, rfl, ⟨_, hne⟩, hv, k0, k1, k2, k3, k4, k5, k6⟩ := (hf.ext (e6.trans hx)).rule hrr
      have HD : Hid (blocked f us = ((decide (1 < n2) && canR r us) || (f.drop (k + 1)).any fun r => decide (1 < r.source.length) && canR r us)) := Lib.hid (by rw [HK.out, drop_cons hrr, List.any_cons, hv.source.len])
      have xa := (Ext.refl wr).alloc (.cells #[.bool s, .bool fl, .slice A1 n1 c1, .slice A2 n2 c2, .slice A3 n3 c3, .slice A4 n4 c4, .int .i64 q] 25)
      have HC := Lib.hid (refCan_any s fl A1 n1 c1 A2 n2 c2 A3 n3 c3 A4 n4 c4 q r AU N cU us _ (hv.ext (xa.agree top)) (Runes.ext HSU.out (hx.trans xa)))
      clear hrr hv
      by_cases h2 : 1 < n2
      · cases hc : canR r us
        · have HK2 : Hid (blocked f us = (f.drop (k + 1)).any fun r => decide (1 < r.source.length) && canR r us) := Lib.hid (by rw [HD.out, hc]; simp)
          have HCC := Lib.hid hc; clear hc
          go_wp2_with (go_at_call 111; refine HC.out.mono ?_; rintro e w1 ⟨rfl, x1⟩; rw [HCC.out])
          go_roundw
          case rel => exact ⟨k + 1, by omega, by go_num, HK2, (hx.trans xa).trans x1⟩
          case measure => simp [intOf]; omega
        · have HV : Hid (pairV f b ds = false) := Lib.hid (by rw [HEE.out.2, HPB.out, HD.out, hc, decide_eq_true h2]; rfl)
          have HCC := Lib.hid hc; clear hc
          go_wp2_with (go_at_call 111; refine HC.out.mono ?_; rintro e w1 ⟨rfl, x1⟩; rw [HCC.out])
          refine bodyPost_ret (v := .tuple #[.bool false, .int .i64 0]) (by simp [results, Try.results49, go_sem]) rfl ?_
          exact ⟨SureR.of HEE.out.1 HV.out, e6.trans ((hx.trans xa).trans x1)⟩
      · have HK2 : Hid (blocked f us = (f.drop (k + 1)).any fun r => decide (1 < r.source.length) && canR r us) := Lib.hid (by rw [HD.out, decide_eq_false h2]; simp)
        go_wp2
        go_roundw
        case rel => exact ⟨k + 1, by omega, by go_num, HK2, hx.trans xa⟩
        case measure => simp [intOf]; omega
    · have HBV : Hid (blocked f us = false) := Lib.hid (by rw [HK.out, drop_end hlen.out hlt]; rfl)
      have ez := e6.trans hx
      have HSU2 := Lib.hid (Runes.ext HSU.out hx)
      generalize wr = w7 at *
      clear HSU
      go_wp2
      go_loopw [15, 78] (fun vO i wr => ∃ (k : Nat) (ok : Nat → Prop), k ≤ N ∧ i = .int .i64 k ∧ Hid (imgsOk f us = (us.drop k).all fun u => !(imgOf f u).isEmpty) ∧ TwoR w7.heap.size wr (.slice none 0 0) [] vO (imgs f (us.take k)) ok ∧ Ext w7 wr) (fun _ i _ => N - (intOf i).toNat)
      case atStart => exact ⟨0, bot, by omega, rfl, HIMO, ⟨OwnR.nil _ _ _ _ _, OwnR.nil _ _ _ _ _, fun i h => h.elim, fun _ _ h => h, fun _ _ h => h, fun g hg => by simp [Value.ownBlock] at hg⟩, Ext.refl _⟩
      case round =>
        obtain ⟨k, ok, hk, rfl, HK2, HT, hy⟩ := hrel
        generalize wr = w2 at *
        obtain ⟨AO, cO, rfl, _⟩ := HT.im.form
        by_cases hkN : k < N
        · obtain ⟨u, hu⟩ : ∃ u, us[k]? = some u := ⟨us[k]'(by rw [HN.out]; exact hkN), List.getElem?_eq_getElem _⟩
          have hui := HUR.out u (List.mem_of_getElem? hu)
          obtain ⟨bu, ou, hAU, _, hcu, _, _⟩ := (Runes.ext HSU2.out hy).rune hu
          subst hAU
          have HTK : Hid (us.take (k + 1) = us.take k ++ [u]) := Lib.hid (take_snoc hu)
          have HDK : Hid (imgsOk f us = (!(imgOf f u).isEmpty && (us.drop (k + 1)).all fun u => !(imgOf f u).isEmpty)) := Lib.hid (by rw [HK2.out, drop_cons hu, List.all_cons])
          have HIM : Hid (imgs f (us.take (k + 1)) = imgs f (us.take k) ++ [imgOf f u]) := Lib.hid (by rw [take_snoc hu]; simp [imgs])
          have hlO : (imgs f (us.take k)).length = k := by simp [imgs, HN.out]; omega
          have HLO := Lib.hid hlO
          clear hu hlO
          generalize imgs f (us.take k) = ik at *
          have xa := (Ext.refl w2).alloc (.cells #[.int .i32 u] 21)
          have oa := oneP_at w2 u 21 hui
          have HW : Hid (Calls Try.prog 35 #[.slice A n c, .slice (some ⟨w2.heap.size, 0, none⟩) 1 1, .int .i64 0] (w2.alloc (.cells #[.int .i32 u] 21)) fun e w' => e = .returned (.int .i64 (first f [u] 0)) ∧ Ext (w2.alloc (.cells #[.int .i32 u] 21)) w') :=
            Lib.hid (refWhich_any A n c f (some ⟨w2.heap.size, 0, none⟩) 1 1 [u] 0 _ (hf.ext ((ez.trans hy).trans xa)) (oa.mono (fun _ _ h => h) (fun _ _ => trivial)) (by omega) (by omega) OKF.out)
          by_cases hfu : first f [u] 0 < 0
          · have HIMG := imgOf_no hfu
            rw [HIMG] at HIM
            have HK3 : Hid (imgsOk f us = (us.drop (k + 1)).all fun u => !(imgOf f u).isEmpty) := Lib.hid (by rw [HDK.out, HIMG]; rfl)
            have hf' : decide (0 ≤ first f [u] 0) = false := by simp; omega
            clear hfu HIMG
            go_upto_region 31 with (go_at_call 35; refine HW.out.mono ?_; rintro e w5 ⟨rfl, x5⟩)
            have E25 := xa.trans x5
            have hs5 := x5.size
            simp only [World.size_alloc] at hs5
            have tt : SlR rRune 1 (fun i => i < w7.heap.size ∨ (w2.heap.size ≤ i ∧ i < w5.heap.size)) w5 (some ⟨w2.heap.size, 0, none⟩) 1 1 [u] := (oa.ext (keep_rune _) x5).mono (fun _ _ h => h) (fun i hi => .inr ⟨by omega, by omega⟩)
            have T5 := (HT.ext E25).more (tk := fun i => i < w7.heap.size ∨ (w2.heap.size ≤ i ∧ i < w5.heap.size)) (fun i hi => ⟨by have h1 := hy.size; have h2 := E25.size; omega, fun g hg => by simp [Value.ownBlock] at hg, fun g hg => by have := HT.im.lt g hg; omega⟩)
            have xb := (Ext.refl w5).alloc (.cells #[.slice (some ⟨w2.heap.size, 0, none⟩) 1 1] 23)
            have T7b := T5.ext xb
            have hbs2 : w7.heap.size ≤ (w5.alloc (.cells #[.slice (some ⟨w2.heap.size, 0, none⟩) 1 1] 23)).heap.size := ((hy.trans E25).trans xb).size
            have hbo : ik.length + 1 ≤ 60000 := by rw [HLO.out]; omega
            go_wp2_with (first
              | (at_builtin
                 refine wpList_appS T_textP (by omega) rfl (.tmp 97) (.tmp 99) rfl rfl T7b.im rfl (textP_one 23 tt) (fun vs x ⟨A, n, c, e, hs⟩ => ⟨A, n, c, e, hs.mono (fun _ _ h => h) (fun i hi => .inr hi)⟩) (one_sl _ _ _) (keep_sl (keep_rune _)) T7b.noO hbo hbs2 ?_
                 intro v9 w9 o9 g9 hat9
                 have T9 := T7b.image o9 g9 hat9
                 have y9 := ((hy.trans E25).trans xb).app g9 T7b.im))
            go_roundw
            case rel => exact ⟨k + 1, _, by omega, by go_num, HK3, by rw [HIM.out]; exact T9, y9⟩
            case measure => simp [intOf]; omega
          · obtain ⟨i, r, hir, hhere, hfi⟩ := first_mem (by omega : 0 ≤ first f [u] 0)
            have HIMG := imgOf_some hfi hir
            have hil : i < n := by rw [← hf.len]; exact (List.getElem?_eq_some_iff.1 hir).1
            have HFI := Lib.hid hfi
            have hf0 := hf.ext ez
            obtain ⟨bo, off, s', f', A1, n1', c1, A2, n2, c2, A3, n3, c3, A4, n4, c4, q, hAeq, ⟨hbo, hbn⟩, hv, r0, r1', r2, r3, r4, r5, r6⟩ := hf0.rule hir
            subst hAeq
            have R5 := Lib.hid r5
            have hT4 := SlR.lt (by omega) hv.target
            have hl4 := Lib.hid hv.target.len
            have h4 := hv.target.max; unfold maxLen at h4
            have h4c := hv.target.cap
            rw [HIMG] at HIM HDK
            have hf' : decide (0 ≤ (i : Int)) = true := by simp
            clear hfu hir hhere hfi hv r0 r1' r2 r3 r4 r5 r6 HIMG hf0
            generalize r.target = tg at *
            by_cases h40 : n4 = 0
            · subst h40
              have htg : tg = [] := List.eq_nil_of_length_eq_zero hl4.out
              have HV : Hid (pairV f b ds = false) := Lib.hid (by rw [HEE.out.2, HPB.out, HDK.out, htg]; simp)
              clear htg
              go_wp2_with (go_at_call 35; refine HW.out.mono ?_; rintro e w5 ⟨rfl, x5⟩; rw [HFI.out]; have t5 := (hy.trans (xa.trans x5)).cell R5.out)
              refine bodyPost_ret (v := .tuple #[.bool false, .int .i64 0]) (by simp [results, Try.results49, go_sem]) rfl ?_
              exact ⟨SureR.of HEE.out.1 HV.out, ez.trans (hy.trans (xa.trans x5))⟩
            · have hn40 : ((n4 : Int) == 0) = false := by simp; omega
              have HK3 : Hid (imgsOk f us = (us.drop (k + 1)).all fun u => !(imgOf f u).isEmpty) := Lib.hid (by
                rw [HDK.out]
                cases htg : tg with
                | nil => have := hl4.out; rw [htg] at this; simp at this; omega
                | cons x y => rfl)
              clear h40
              go_upto_region 31 with (go_at_call 35; refine HW.out.mono ?_; rintro e w5 ⟨rfl, x5⟩; rw [HFI.out]; have t5 := (hy.trans (xa.trans x5)).cell R5.out)
              have E25 := xa.trans x5
              have tt : SlR rRune 1 (fun i => i < w7.heap.size ∨ (w2.heap.size ≤ i ∧ i < w5.heap.size)) w5 A4 n4 c4 tg := (hT4.ext (keep_rune _) (hy.trans E25)).mono (fun _ _ h => h) (fun i hi => .inl hi.2)
              have T5 := (HT.ext E25).more (tk := fun i => i < w7.heap.size ∨ (w2.heap.size ≤ i ∧ i < w5.heap.size)) (fun i hi => ⟨by have h1 := hy.size; have h2 := E25.size; omega, fun g hg => by simp [Value.ownBlock] at hg, fun g hg => by have := HT.im.lt g hg; omega⟩)
              have xb := (Ext.refl w5).alloc (.cells #[.slice A4 n4 c4] 23)
              have T7b := T5.ext xb
              have hbs2 : w7.heap.size ≤ (w5.alloc (.cells #[.slice A4 n4 c4] 23)).heap.size := ((hy.trans E25).trans xb).size
              have hbo : ik.length + 1 ≤ 60000 := by rw [HLO.out]; omega
              go_wp2_with (first
                | (at_builtin
                   refine wpList_appS T_textP (by omega) rfl (.tmp 97) (.tmp 99) rfl rfl T7b.im rfl (textP_one 23 tt) (fun vs x ⟨A, n, c, e, hs⟩ => ⟨A, n, c, e, hs.mono (fun _ _ h => h) (fun i hi => .inr hi)⟩) (one_sl _ _ _) (keep_sl (keep_rune _)) T7b.noO hbo hbs2 ?_
                   intro v9 w9 o9 g9 hat9
                   have T9 := T7b.image o9 g9 hat9
                   have y9 := ((hy.trans E25).trans xb).app g9 T7b.im))
              go_roundw
              case rel => exact ⟨k + 1, _, by omega, by go_num, HK3, by rw [HIM.out]; exact T9, y9⟩
              case measure => simp [intOf]; omega
        · have hkk : N = k := by omega
          subst hkk
          have HV : Hid (imgsOk f us = true) := Lib.hid (by rw [HK2.out, drop_end HN.out (by omega)]; rfl)
          have HTKN : Hid (us.take N = us) := Lib.hid (take_all HN.out (by omega))
          have HLI : Hid ((imgs f us).length = N) := Lib.hid (by simp [imgs, HN.out])
          have h1 := HTKN.out; have h3 := HLI.out
          simp only [h1, h3] at HT ⊢
          obtain ⟨A8, c8, e8, s8⟩ := HT.im.top
          rw [h3] at e8 s8
          simp only [Value.slice.injEq, true_and] at e8
          obtain ⟨rfl, rfl⟩ := e8
          have HSO0 : Hid (Texts w2 AO N cO (imgs f us)) := Lib.hid (SlR.mono s8 (fun vs x ⟨A', n', c', e, hs⟩ => (⟨A', n', c', e, hs.mono (fun _ _ h => h) (fun _ _ => trivial)⟩ : rSl rRune 1 top w2 vs x)) (fun _ h => h))
          have HIO := HV
          have HP2 : Hid (pairV f b ds = ((imgs f us).zip us).all (outerB b rch (imgs f us))) := Lib.hid (by rw [HEE.out.2, HPB.out, HBV.out, HV.out]; rfl)
          have e9 := ez.trans hy
          have HSU3 := Lib.hid (Runes.ext HSU2.out hy)
          clear h1 h3 s8 HT
          go_wp2_with (go_at_call 74; refine (C7.out _ e9).mono ?_; rintro e w0 ⟨rfl, x0⟩)
          have e7 := e9.trans x0
          have sO7 : Texts w0 AO N cO (imgs f us) := Texts.ext HSO0.out x0
          have sU7 : Runes w0 AU N cU us := Runes.ext HSU3.out x0
          have HSU := Lib.hid sU7; have HSO := Lib.hid sO7
          have hmO := sO7.max; have hcO := sO7.cap; unfold maxLen at hmO
          have hmU := sU7.max; have hcU := sU7.cap; unfold maxLen at hmU
          clear sU7 sO7 x0 C7 HSU2 HSU3 HSO0
          generalize hts : imgs f us = ts at *
          have HTS := Lib.hid hts
          have HTL : Hid (ts.length = N) := Lib.hid (by rw [← hts]; simp [imgs, HN.out])
          clear hts
          go_loopw [109] (fun i wr => ∃ k : Nat, k ≤ N ∧ i = .int .i64 k ∧ Hid (pairV f b ds = ((ts.zip us).drop k).all (outerB b rch ts)) ∧ Ext w0 wr) (fun i _ => N - (intOf i).toNat)
          case atStart => exact ⟨0, by omega, rfl, HP2, Ext.refl _⟩
          case round =>
            obtain ⟨k, hk, rfl, HK, hx⟩ := hrel
            generalize wr = wo at *
            by_cases hlt : k < N
            · obtain ⟨t, ht⟩ : ∃ t, ts[k]? = some t := ⟨ts[k]'(by rw [HTL.out]; exact hlt), List.getElem?_eq_getElem _⟩
              obtain ⟨u, hu⟩ : ∃ u, us[k]? = some u := ⟨us[k]'(by rw [HN.out]; exact hlt), List.getElem?_eq_getElem _⟩
              have htu : t = imgOf f u := by
                have := ht; rw [← HTS.out] at this; unfold imgs at this
                rw [List.getElem?_map, hu] at this; simpa using this.symm
              have ht20 : t.length ≤ 20 := by rw [htu]; exact img_len OKF.out u
              have ht0 : 0 < t.length := by
                have h1 := List.all_eq_true.1 HIO.out u (List.mem_of_getElem? hu)
                rw [← htu] at h1
                cases t with
                | nil => simp at h1
                | cons x r => simp
              have hui := HUR.out u (List.mem_of_getElem? hu)
              have hz : (ts.zip us)[k]? = some (t, u) := by rw [List.getElem?_zip_eq_some]; exact ⟨ht, hu⟩
              have HD : Hid (pairV f b ds = ((undoneB b t t.length u && innerB b rch t u ts) && ((ts.zip us).drop (k + 1)).all (outerB b rch ts))) := Lib.hid (by rw [HK.out, drop_cons hz, List.all_cons]; rfl)
              obtain ⟨b1, o1, X1, n1, c1, hAO, _, hc1, hs1⟩ := (HSO.out.ext hx).sl ht
              obtain ⟨b2, o2, hAU, _, hc2, _, _⟩ := (HSU.out.ext hx).rune hu
              subst hAO hAU
              have hl1 : t.length = n1 := hs1.len
              rw [hl1] at ht20 ht0 HD
              have HUN := Lib.hid (refUndone_any A' n' c' b X1 n1 c1 t n1 u wo (hb.ext (e7.trans hx)) OKB.out hs1 (by omega) ht0 (by omega) hui)
              clear ht hu htu hz
              cases hun : undoneB b t n1 u
              · have HV : Hid (pairV f b ds = false) := Lib.hid (by rw [HD.out, hun]; rfl)
                have HQ := Lib.hid hun; clear hun
                go_wp2_with (go_at_call 112; refine HUN.out.mono ?_; rintro e w8 ⟨rfl, x8⟩; rw [HQ.out])
                refine bodyPost_ret (v := .tuple #[.bool false, .int .i64 0]) (by simp [results, Try.results49, go_sem]) rfl ?_
                exact ⟨SureR.of HEE.out.1 HV.out, (e7.trans hx).trans x8⟩
              · obtain ⟨iv, hiv⟩ : ∃ iv, innerB b rch t u ts = iv := ⟨_, rfl⟩
                have HINN : Hid (iv = ts.all fun v => decide (rch ≤ t.length + v.length) && undoneB b (t ++ v) t.length u) := Lib.hid hiv.symm
                have HD2 : Hid (pairV f b ds = (iv && ((ts.zip us).drop (k + 1)).all (outerB b rch ts))) := Lib.hid (by rw [HD.out, hun, hiv]; rfl)
                have HQ := Lib.hid hun; clear hun hiv
                have HC1 := Lib.hid hc1; have HC2 := Lib.hid hc2
                have HT1 := Lib.hid hs1
                go_wp2_with (go_at_call 112; refine HUN.out.mono ?_; rintro e w8 ⟨rfl, x8⟩; rw [HQ.out])
                go_loopw [126] (fun i wr => ∃ j : Nat, j ≤ N ∧ i = .int .i64 j ∧ Hid (iv = (ts.drop j).all fun v => decide (rch ≤ t.length + v.length) && undoneB b (t ++ v) t.length u) ∧ Ext wo wr) (fun i _ => N - (intOf i).toNat)
                case atStart => exact ⟨0, by omega, rfl, HINN, x8⟩
                case round =>
                  obtain ⟨j, hj, rfl, HJ, hy⟩ := hrel
                  by_cases hlj : j < N
                  · obtain ⟨v, hv⟩ : ∃ v, ts[j]? = some v := ⟨ts[j]'(by rw [HTL.out]; exact hlj), List.getElem?_eq_getElem _⟩
                    obtain ⟨b3, o3, X2, n2, c2, hb3, _, hc3, hs3⟩ := (HSO.out.ext (hx.trans hy)).sl hv
                    have hb3' := hb3
                    simp only [Option.some.injEq, Addr.mk.injEq, and_true] at hb3'
                    obtain ⟨rfl, rfl⟩ := hb3'
                    have hvt : v ∈ ts := List.mem_of_getElem? hv
                    have hv20 : v.length ≤ 20 := by
                      rw [← HTS.out] at hvt
                      unfold imgs at hvt
                      obtain ⟨y, _, rfl⟩ := List.mem_map.1 hvt
                      exact img_len OKF.out y
                    have hl2 : v.length = n2 := hs3.len
                    rw [hl2] at hv20
                    have HJD : Hid (iv = ((decide (rch ≤ n1 + n2) && undoneB b (t ++ v) n1 u) && (ts.drop (j + 1)).all fun v => decide (rch ≤ t.length + v.length) && undoneB b (t ++ v) t.length u)) := Lib.hid (by rw [HJ.out, drop_cons hv, List.all_cons, hl1, hl2])
                    have hsum : IntKind.i64.wrap ((n1 : Int) + n2) = (n1 : Int) + n2 := IntWalk.i64_in _ (by omega)
                    clear hv hvt hb3
                    by_cases hr : n1 + n2 < rch
                    · have HV : Hid (pairV f b ds = false) := Lib.hid (by rw [HD2.out, HJD.out, decide_eq_false (by omega)]; rfl)
                      have hr' : decide ((n1 : Int) + (n2 : Int) < (rch : Int)) = true := by simp; omega
                      clear hr
                      go_wp2
                      go_quiet (fail)
                      go_wp2
                      refine bodyPost_ret (v := .tuple #[.bool false, .int .i64 0]) (by simp [results, Try.results49, go_sem]) rfl ?_
                      exact ⟨SureR.of HEE.out.1 HV.out, ((e7.trans hx).trans hy).trans ((Ext.refl _).drewN _)⟩
                    · have hr' : decide ((n1 : Int) + (n2 : Int) < (rch : Int)) = false := by simp; omega
                      have hr2 : decide (rch ≤ n1 + n2) = true := by simp; omega
                      rw [hr2, Bool.true_and] at HJD
                      clear hr hr2
                      obtain ⟨tv, htv⟩ : ∃ tv, t ++ v = tv := ⟨_, rfl⟩
                      have htvl : tv.length = n1 + n2 := by rw [← htv, List.length_append, hl1, hl2]
                      rw [htv] at HJD
                      have yd := hy.trans (Ext.refl wr).drew
                      have z2 := (yd.cell HC2.out)
                      have hs1r := Runes.ext HT1.out hy
                      have oe := OwnR.empty rRune 21 1 wr.heap.size wr.drew (Nat.le_refl _)
                      have f2 := ((Ext.refl wr).drew).alloc (.cells #[] 21)
                      have zr := hy.cell HC2.out
                      have er := (e7.trans hx).trans hy
                      have htv4 : tv.length ≤ 4000 := by omega
                      have htv0 : 0 < tv.length := by omega
                      clear htvl
                      cases hun2 : undoneB b tv n1 u
                      · have HV : Hid (pairV f b ds = false) := Lib.hid (by rw [HD2.out, HJD.out, hun2]; rfl)
                        have HQ2 := Lib.hid hun2; clear hun2
                        go_wp2
                        go_region_held3 (fun w' => w'.cell? ⟨b2, o2 + k, none⟩ = some (.int .i32 u))
                          (first | go_keep | exact z9 | exact z10 | exact z11)
                          (first
                            | (refine step_appG T_rune (by omega) (by rfl) (.tmp 139) (.tmp 140) rfl rfl oe rfl (Runes.ext hs1r f2) (fun _ _ h => h) one_rune (keep_rune bot) (bot_no _) ?_ f2.size ?_
                               · simp; omega
                               intro v12 w12 o12 g12 hat12
                               have f12 := f2.app g12 oe
                               simp only [List.nil_append] at o12
                               have z9 := f12.cell zr)
                            | (refine step_appG T_rune (by omega) (by rfl) (.tmp 141) (.tmp 142) rfl rfl o12 rfl (Runes.ext hs3 f12) (fun _ _ h => h) one_rune (keep_rune bot) (bot_no _) ?_ f12.size ?_
                               · rw [hl1]; omega
                               intro v13 w9 o13 g13 hat13
                               have xx := f12.app g13 o12
                               rw [htv] at o13
                               obtain ⟨AX, cX, rfl, sX⟩ := o13.top
                               have z10 := xx.cell zr)
                            | (go_at_call 112; ((with_reducible refine (refUndone_any A' n' c' b AX tv.length cX tv n1 u w9 (hb.ext (er.trans xx)) OKB.out sX htv4 htv0 (by omega) hui).mono ?_); rintro e w10 ⟨rfl, x10⟩; rw [HQ2.out]; have z11 := x10.cell z10)))
                        all_goals
                          go_wp2
                          refine bodyPost_ret (v := .tuple #[.bool false, .int .i64 0]) (by simp [results, Try.results49, go_sem]) rfl ?_
                          exact ⟨SureR.of HEE.out.1 HV.out, (er.trans xx).trans x10⟩
                      · have HJ2 : Hid (iv = (ts.drop (j + 1)).all fun v => decide (rch ≤ t.length + v.length) && undoneB b (t ++ v) t.length u) := Lib.hid (by rw [HJD.out, hun2, Bool.true_and])
                        have HQ2 := Lib.hid hun2; clear hun2
                        go_wp2
                        go_region_held3 (fun w' => w'.cell? ⟨b2, o2 + k, none⟩ = some (.int .i32 u))
                          (first | go_keep | exact z9 | exact z10 | exact z11)
                          (first
                            | (refine step_appG T_rune (by omega) (by rfl) (.tmp 139) (.tmp 140) rfl rfl oe rfl (Runes.ext hs1r f2) (fun _ _ h => h) one_rune (keep_rune bot) (bot_no _) ?_ f2.size ?_
                               · simp; omega
                               intro v12 w12 o12 g12 hat12
                               have f12 := f2.app g12 oe
                               simp only [List.nil_append] at o12
                               have z9 := f12.cell zr)
                            | (refine step_appG T_rune (by omega) (by rfl) (.tmp 141) (.tmp 142) rfl rfl o12 rfl (Runes.ext hs3 f12) (fun _ _ h => h) one_rune (keep_rune bot) (bot_no _) ?_ f12.size ?_
                               · rw [hl1]; omega
                               intro v13 w9 o13 g13 hat13
                               have xx := f12.app g13 o12
                               rw [htv] at o13
                               obtain ⟨AX, cX, rfl, sX⟩ := o13.top
                               have z10 := xx.cell zr)
                            | (go_at_call 112; ((with_reducible refine (refUndone_any A' n' c' b AX tv.length cX tv n1 u w9 (hb.ext (er.trans xx)) OKB.out sX htv4 htv0 (by omega) hui).mono ?_); rintro e w10 ⟨rfl, x10⟩; rw [HQ2.out]; have z11 := x10.cell z10)))
                        all_goals
                          go_wp2
                          go_roundw
                          case rel => exact ⟨j + 1, by omega, by go_num, HJ2, (hy.trans xx).trans x10⟩
                          case measure => simp [intOf]; omega
                  · have HJV : Hid (iv = true) := Lib.hid (by rw [HJ.out, drop_end HTL.out hlj]; rfl)
                    have HK2 : Hid (pairV f b ds = ((ts.zip us).drop (k + 1)).all (outerB b rch ts)) := Lib.hid (by rw [HD2.out, HJV.out, Bool.true_and])
                    go_wp2
                    go_roundw
                    case rel => exact ⟨k + 1, by omega, by go_num, HK2, hx.trans hy⟩
                    case measure => simp [intOf]; omega
            · have HV : Hid (pairV f b ds = true) := Lib.hid (by rw [HK.out, List.drop_of_length_le (by rw [List.length_zip, HTL.out, HN.out]; omega)]; rfl)
              go_wp2
              refine bodyPost_ret (v := .tuple #[.bool true, .int .i64 0]) (by simp [results, Try.results49, go_sem]) rfl ?_
              exact ⟨SureR.of HEE.out.1 HV.out, e7.trans hx⟩

include hf hb hd in
theorem refSureAll_any : Calls Try.prog 49 #[.slice A n c, .slice A' n' c', .slice B m d] w fun e w' => SureR f b ds e ∧ Ext w w' := by
  by_cases h0 : (wrongRules f).1 = 0
  · by_cases h1 : (wrongRules b).1 = 0
    · by_cases h2 : wrongSet ds = 0
      · by_cases h3 : 40 < countL ds
        · exact refSure4 A n c f A' n' c' b B m d ds w hf hb hd h0 h1 h2 h3
        · cases hp : (plainR f && plainR b)
          · exact refSure5 A n c f A' n' c' b B m d ds w hf hb hd h0 h1 h2 h3 hp
          · simp only [Bool.and_eq_true] at hp
            exact refSure_main A n c f A' n' c' b B m d ds w hf hb hd h0 h1 h2 h3 hp.1 hp.2
      · exact refSure3 A n c f A' n' c' b B m d ds w hf hb hd h0 h1 h2
    · exact refSure2 A n c f A' n' c' b B m d ds w hf hb h0 h1
  · exact refSure1 A n c f A' n' c' b B m d ds w hf h0
end

end Go.Proofs.Ytfdkbhbnldcbmaa
