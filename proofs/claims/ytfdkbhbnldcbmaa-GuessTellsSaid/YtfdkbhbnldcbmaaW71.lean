/- Walks: whether rules look at nothing around, by both. -/
import Derived.Test.YtfdkbhbnldcbmaaW70
namespace Go.Proofs.Ytfdkbhbnldcbmaa
open Go.RowKit
set_option linter.unusedVariables false
set_option linter.unusedSimpArgs false

set_option maxRecDepth 100000 in
set_option maxHeartbeats 800000 in
theorem plainAt_any (s f : Bool) (A1 : Option Addr) (n1 c1 : Nat) (A2 : Option Addr) (n2 c2 : Nat) (A3 : Option Addr) (n3 c3 : Nat) (A4 : Option Addr) (n4 c4 : Nat) (q : Int) (w : World) (h1 : n1 ≤ 20) (h3 : n3 ≤ 20) :
    Calls Try.prog 144 #[.agg #[.bool s, .bool f, .slice A1 n1 c1, .slice A2 n2 c2, .slice A3 n3 c3, .slice A4 n4 c4, .int .i64 q]] w
      fun e w' => e = .returned (.bool (s || f || decide (0 < n1 + n3))) ∧ Ext w w' := by
  have e1 := (Ext.refl w).alloc (.cells #[.bool s, .bool f, .slice A1 n1 c1, .slice A2 n2 c2, .slice A3 n3 c3, .slice A4 n4 c4, .int .i64 q] 25)
  have hw : IntKind.i64.wrap ((n1 : Int) + n3) = ((n1 + n3 : Nat) : Int) := by rw [IntWalk.i64_in _ (by omega)]; omega
  generalize n1 + n3 = z at *
  cases s <;> cases f
  all_goals
    go_enter Try.func144, Try.ntmps144
    go_wp2
    go_ret
    exact ⟨by simp, e1⟩

set_option maxRecDepth 100000 in
theorem plain_any (A : Option Addr) (n c : Nat) (l : List Rule) (w : World) (h : Rules w A n c l) (hok : ∀ r ∈ l, OkRule r) :
    Calls Try.prog 107 #[.slice A n c] w fun e w' => e = .returned (.bool (plainR l)) ∧ Ext w w' := by
  have hmf : ∀ (fn : Fn) (first cap : Array Value) (w : World), (Instr.makeFunc fn first cap).run Try.prog w = .ok (.func fn first cap) w := fun _ _ _ _ => rfl
  have eg : ∀ args w, (callFunc 144 args).run Try.prog w = .ok (.enter 144 args) w := enters Try.func144 (by kernel_rfl) rfl
  have hp : ∀ W, Ext w W → PredRule 144 #[] (fun r => !(bareR r)) l W := by
    intro W0 _ W s f A1 n1 c1 A2 n2 c2 A3 n3 c3 A4 n4 c4 q r hW hv hr
    have ok := hok r hr
    have h1 := ok.lb; have h3 := ok.la
    rw [hv.before.len] at h1; rw [hv.after.len] at h3
    have := plainAt_any s f A1 n1 c1 A2 n2 c2 A3 n3 c3 A4 n4 c4 q W h1 h3
    have e1 : (!(bareR r)) = (s || f || decide (0 < n1 + n3)) := by unfold bareR; rw [hv.start, hv.fin, hv.before.len, hv.after.len, Bool.not_not]
    simp only [e1]
    exact this
  have HS := Lib.hid (Sure_any A n c l w h)
  have HC := Lib.hid (fun W (e : Ext w W) => ContainsRule_any A n c l W _ _ _ eg (hp W e) (h.ext e))
  have HR : Hid (plainR l = (sureR l && !(l.any fun r => !(bareR r)))) := Lib.hid (by unfold plainR; rw [← List.all_eq_not_any_not])
  clear hp h hok
  generalize (l.any fun r => !(bareR r)) = x at *
  generalize sureR l = y at *
  cases y
  · go_enter Try.func107, Try.ntmps107
    go_wp2_with (first
      | (go_at_call 41; refine HS.out.mono ?_; rintro e w1 ⟨rfl, x1⟩))
    go_ret
    rw [HR.out]
    exact ⟨rfl, x1⟩
  · go_enter Try.func107, Try.ntmps107
    go_wp2_with (first
      | (go_at_call 41; refine HS.out.mono ?_; rintro e w1 ⟨rfl, x1⟩)
      | (go_at_call 95; refine (HC.out _ x1).mono ?_; rintro e w2 ⟨rfl, x2⟩))
    go_ret
    rw [HR.out]
    exact ⟨by simp, x1.trans x2⟩

set_option maxRecDepth 100000 in
set_option maxHeartbeats 1600000 in
theorem refPlain_any (A : Option Addr) (n c : Nat) (l : List Rule) (w : World) (h : Rules w A n c l) :
    Calls Try.prog 110 #[.slice A n c] w fun e w' => e = .returned (.bool (plainR l)) ∧ Ext w w' := by
  have hm := h.max; unfold maxLen at hm
  have hcap := h.cap
  have hlen := Lib.hid h.len
  have HS := Lib.hid (fun W (e : Ext w W) => refSureP_any A n c l W (h.ext e))
  have HR : Hid (plainR l = (sureR l && l.all bareR)) := Lib.hid rfl
  generalize sureR l = y at *
  go_enter Try.func110, Try.ntmps110
  go_wp2
  go_loopw [7] (fun i wr => ∃ k : Nat, k ≤ n ∧ i = .int .i64 k ∧ Hid (l.all bareR = (l.drop k).all bareR) ∧ Ext w wr) (fun i _ => n - (intOf i).toNat)
  case atStart => exact ⟨0, by omega, rfl, Lib.hid rfl, Ext.refl _⟩
  case round =>
    obtain ⟨k, hk, rfl, HK, hx⟩ := hrel
    by_cases hlt : k < n
    · obtain ⟨r, hrr⟩ := h.idx hlt
      obtain ⟨b, off, s, f, A1, n1, c1, A2, n2, c2, A3, n3, c3, A4, n4, c4, q, rfl, ⟨_, hne⟩, hv, k0, k1, k2, k3, k4, k5, k6⟩ := (h.ext hx).rule hrr
      have HB : Hid (l.all bareR = (!(s || f || decide (0 < n1 + n3)) && (l.drop (k + 1)).all bareR)) := Lib.hid (by
        rw [HK.out, drop_cons hrr, List.all_cons]; unfold bareR; rw [hv.start, hv.fin, hv.before.len, hv.after.len])
      clear hrr hv
      have bad : s = true ∨ f = true ∨ 0 < n1 ∨ 0 < n3 → l.all bareR = false := fun hb => by
        rw [HB.out]
        have : (s || f || decide (0 < n1 + n3)) = true := by
          rcases hb with rfl | rfl | hb | hb
          · simp
          · simp
          · rw [decide_eq_true (by omega)]; simp
          · rw [decide_eq_true (by omega)]; simp
        rw [this]; rfl
      have HBD := Lib.hid bad; clear bad
      cases s
      · cases f
        · by_cases g1 : 0 < n1
          · have HV := Lib.hid (HBD.out (.inr (.inr (.inl g1))))
            go_wp2
            go_ret
            rw [HR.out, HV.out, Bool.and_false]
            exact ⟨rfl, hx.alloc _⟩
          · by_cases g3 : 0 < n3
            · have HV := Lib.hid (HBD.out (.inr (.inr (.inr g3))))
              go_wp2
              go_ret
              rw [HR.out, HV.out, Bool.and_false]
              exact ⟨rfl, hx.alloc _⟩
            · have HK2 : Hid (l.all bareR = (l.drop (k + 1)).all bareR) := Lib.hid (by rw [HB.out, decide_eq_false (by omega)]; rfl)
              go_wp2
              go_roundw
              case rel => exact ⟨k + 1, by omega, by go_num, HK2, hx.alloc _⟩
              case measure => simp [intOf]; omega
        · have HV := Lib.hid (HBD.out (.inr (.inl rfl)))
          go_wp2
          go_ret
          rw [HR.out, HV.out, Bool.and_false]
          exact ⟨rfl, hx.alloc _⟩
      · have HV := Lib.hid (HBD.out (.inl rfl))
        go_wp2
        go_ret
        rw [HR.out, HV.out, Bool.and_false]
        exact ⟨rfl, hx.alloc _⟩
    · have HE : Hid (l.all bareR = true) := Lib.hid (by rw [HK.out, drop_end hlen.out hlt]; rfl)
      go_wp2_with (go_at_call 75; refine (HS.out _ hx).mono ?_; rintro e w1 ⟨rfl, x1⟩)
      go_ret
      rw [HR.out, HE.out, Bool.and_true]
      exact ⟨rfl, hx.trans x1⟩

end Go.Proofs.Ytfdkbhbnldcbmaa
