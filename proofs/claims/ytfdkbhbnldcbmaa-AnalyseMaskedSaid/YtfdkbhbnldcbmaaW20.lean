/- Walks: whether rules always go on; how far they look. -/
import Derived.Test.YtfdkbhbnldcbmaaW14
import Derived.Test.YtfdkbhbnldcbmaaW19
namespace Go.Proofs.Ytfdkbhbnldcbmaa
open Go.RowKit
set_option linter.unusedVariables false
set_option linter.unusedSimpArgs false

theorem ContainsRule_any (A : Option Addr) (n c : Nat) (l : List Rule) (w : World) (g : FuncId) (caps : Array Value) (p : Rule → Bool)
    (eg : ∀ args w, (callFunc g args).run Try.prog w = .ok (.enter g args) w) (hp : PredRule g caps p l w) (h : Rules w A n c l) :
    Calls Try.prog 95 #[.slice A n c, .func (.func g) #[] caps] w fun e w' => e = .returned (.bool (l.any p)) ∧ Ext w w' := by
  have HC := Lib.hid (IndexRule_any A n c l w g caps p eg hp h)
  have hm := h.max; unfold maxLen at hm
  have hb := idxFrom_le p 0 l
  have hg := Lib.hid (idxFrom_geq p 0 l)
  clear eg hp h
  generalize idxFrom p 0 l = z at *
  go_enter Try.func95, Try.ntmps95
  go_wp2_with (go_at_call 137; refine HC.out.mono ?_; rintro e w' ⟨rfl, hx⟩)
  go_ret
  rw [← hg.out]
  exact ⟨rfl, hx⟩

set_option maxRecDepth 100000 in
theorem sureAt_any (s f : Bool) (A1 : Option Addr) (n1 c1 : Nat) (A2 : Option Addr) (n2 c2 : Nat) (A3 : Option Addr) (n3 c3 : Nat) (A4 : Option Addr) (n4 c4 : Nat) (q : Int) (r : Rule) (w : World) (hv : RuleV w s f A1 n1 c1 A2 n2 c2 A3 n3 c3 A4 n4 c4 q r) :
    Calls Try.prog 96 #[.agg #[.bool s, .bool f, .slice A1 n1 c1, .slice A2 n2 c2, .slice A3 n3 c3, .slice A4 n4 c4, .int .i64 q]] w
      fun e w' => e = .returned (.bool (q != (n4 : Int))) ∧ Ext w w' := by
  have e1 := (Ext.refl w).alloc (.cells #[.bool s, .bool f, .slice A1 n1 c1, .slice A2 n2 c2, .slice A3 n3 c3, .slice A4 n4 c4, .int .i64 q] 25)
  clear hv
  go_enter Try.func96, Try.ntmps96
  go_wp2
  go_ret
  exact ⟨rfl, e1⟩

theorem any_not_sure (l : List Rule) : (l.any fun r => (r.cursor != (r.target.length : Int))) = !sureR l := by
  unfold sureR
  induction l with
  | nil => rfl
  | cons x l ih =>
    rw [List.any_cons, List.all_cons, ih]
    have : (x.cursor != (x.target.length : Int)) = !decide (x.cursor = x.target.length) := by
      by_cases h : x.cursor = x.target.length
      · rw [decide_eq_true h, h]; simp
      · rw [decide_eq_false h]; simpa using h
    rw [this]
    cases decide (x.cursor = x.target.length) <;> simp

set_option maxRecDepth 100000 in
theorem Sure_any (A : Option Addr) (n c : Nat) (l : List Rule) (w : World) (h : Rules w A n c l) :
    Calls Try.prog 41 #[.slice A n c] w fun e w' => e = .returned (.bool (sureR l)) ∧ Ext w w' := by
  have hmf : ∀ (fn : Fn) (first cap : Array Value) (w : World), (Instr.makeFunc fn first cap).run Try.prog w = .ok (.func fn first cap) w := fun _ _ _ _ => rfl
  have eg : ∀ args w, (callFunc 96 args).run Try.prog w = .ok (.enter 96 args) w := enters Try.func96 (by kernel_rfl) rfl
  have hp : PredRule 96 #[] (fun r => (r.cursor != (r.target.length : Int))) l w := by
    intro W s f A1 n1 c1 A2 n2 c2 A3 n3 c3 A4 n4 c4 q r hW hv hr
    have := sureAt_any s f A1 n1 c1 A2 n2 c2 A3 n3 c3 A4 n4 c4 q r W hv
    have e1 : (r.cursor != (r.target.length : Int)) = (q != (n4 : Int)) := by rw [hv.cursor, hv.target.len]
    simp only [e1]
    exact this
  have HC := Lib.hid (ContainsRule_any A n c l w _ _ _ eg hp h)
  have HS := Lib.hid (any_not_sure l)
  clear hp h
  generalize (l.any fun r => (r.cursor != (r.target.length : Int))) = x at *
  go_enter Try.func41, Try.ntmps41
  go_wp2_with (go_at_call 95; refine HC.out.mono ?_; rintro e w1 ⟨rfl, hx⟩)
  go_ret
  rw [show sureR l = !x by rw [HS.out]; simp]
  exact ⟨rfl, hx⟩

set_option maxRecDepth 100000 in
set_option maxHeartbeats 800000 in
theorem Reach_any (A : Option Addr) (n c : Nat) (l : List Rule) (w : World) (h : Rules w A n c l) (hok : ∀ r ∈ l, OkRule r) :
    Calls Try.prog 39 #[.slice A n c] w fun e w' => e = .returned (.tuple #[.int .i64 (reachB l 0 0).1, .int .i64 (reachB l 0 0).2]) ∧ Ext w w' := by
  have hm := h.max; unfold maxLen at hm
  have hcap := h.cap
  have hlen := Lib.hid h.len
  have OK := Lib.hid hok; clear hok
  go_enter Try.func39, Try.ntmps39
  go_wp2
  go_loopw [2, 3, 8] (fun u v i wr => ∃ k : Nat, k ≤ n ∧ i = .int .i64 k ∧ u = .int .i64 (reachB (l.take k) 0 0).1 ∧ v = .int .i64 (reachB (l.take k) 0 0).2 ∧ Ext w wr) (fun _ _ i _ => n - (intOf i).toNat)
  case atStart => exact ⟨0, by omega, rfl, rfl, rfl, Ext.refl _⟩
  case round =>
    obtain ⟨k, hk, rfl, rfl, rfl, hx⟩ := hrel
    by_cases hlt : k < n
    · obtain ⟨r, hrr⟩ := h.idx hlt
      obtain ⟨b, off, s, f, A1, n1, c1, A2, n2, c2, A3, n3, c3, A4, n4, c4, q, rfl, ⟨_, hne⟩, hv, k0, k1, k2, k3, k4, k5, k6⟩ := (h.ext hx).rule hrr
      have ok := OK.out r (List.mem_of_getElem? hrr)
      have l1 := ok.lb; have l2 := ok.ls; have l3 := ok.la
      rw [hv.before.len] at l1; rw [hv.source.len] at l2; rw [hv.after.len] at l3
      have hb := reachB_le (l.take k) 0 0 (fun x hx => OK.out x (List.mem_of_mem_take hx)) (by omega) (by omega)
      have HS : Hid (reachB (l.take (k + 1)) 0 0 = (max (reachB (l.take k) 0 0).1 n1, max (reachB (l.take k) 0 0).2 (n2 + n3))) := Lib.hid (by
        rw [take_snoc hrr, reachB_snoc, hv.before.len, hv.source.len, hv.after.len])
      clear hrr ok hv
      generalize (reachB (l.take k) 0 0).1 = x at *
      generalize (reachB (l.take k) 0 0).2 = y at *
      have hw : IntKind.i64.wrap ((n2 : Int) + n3) = (n2 : Int) + n3 := IntWalk.i64_in _ (by omega)
      go_wp2
      go_quiet (fail)
      clear hw
      go_wp2
      go_roundw
      case rel => exact ⟨k + 1, by omega, by go_num, by rw [HS.out]; go_num, by rw [HS.out]; go_num, (hx.alloc _).drewN _⟩
      case measure => simp [intOf]; omega
    · go_wp2
      go_ret2
      rw [take_all hlen.out (by omega)]
      exact ⟨rfl, hx⟩

end Go.Proofs.Ytfdkbhbnldcbmaa
