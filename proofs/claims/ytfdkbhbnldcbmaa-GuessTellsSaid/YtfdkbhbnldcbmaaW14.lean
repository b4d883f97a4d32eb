/- Walks: the first rule that matches. -/
import Derived.Test.YtfdkbhbnldcbmaaW6
import Derived.Test.YtfdkbhbnldcbmaaW11
import Derived.Test.YtfdkbhbnldcbmaaRule
namespace Go.Proofs.Ytfdkbhbnldcbmaa
open Go.RowKit
set_option linter.unusedVariables false
set_option linter.unusedSimpArgs false

/-- A function value that tells a predicate on rules of a list. -/
def PredRule (g : FuncId) (caps : Array Value) (p : Rule → Bool) (l : List Rule) (w : World) : Prop :=
  ∀ W s f A1 n1 c1 A2 n2 c2 A3 n3 c3 A4 n4 c4 q r, Ext w W → RuleV W s f A1 n1 c1 A2 n2 c2 A3 n3 c3 A4 n4 c4 q r → r ∈ l →
    Calls Try.prog g (#[.agg #[.bool s, .bool f, .slice A1 n1 c1, .slice A2 n2 c2, .slice A3 n3 c3, .slice A4 n4 c4, .int .i64 q]] ++ caps) W fun e w' => e = .returned (.bool (p r)) ∧ Ext W w'

theorem idxFrom_yes {α : Type} {p : α → Bool} {k : Nat} {x : α} {l : List α} (h : p x = true) : idxFrom p k (x :: l) = k := by simp [idxFrom, h]
theorem idxFrom_no {α : Type} {p : α → Bool} {k : Nat} {x : α} {l : List α} (h : p x = false) : idxFrom p k (x :: l) = idxFrom p (k + 1) l := by simp [idxFrom, h]

set_option maxRecDepth 100000 in
set_option maxHeartbeats 800000 in
theorem IndexRule_any (A : Option Addr) (n c : Nat) (l : List Rule) (w : World) (g : FuncId) (caps : Array Value) (p : Rule → Bool)
    (eg : ∀ args w, (callFunc g args).run Try.prog w = .ok (.enter g args) w) (hp : PredRule g caps p l w) (h : Rules w A n c l) :
    Calls Try.prog 137 #[.slice A n c, .func (.func g) #[] caps] w fun e w' => e = .returned (.int .i64 (idxFrom p 0 l)) ∧ Ext w w' := by
  have hm := h.max; unfold maxLen at hm
  have hcap := h.cap
  have hlen := Lib.hid h.len
  have HP := Lib.hid hp; clear hp
  go_enter Try.func137, Try.ntmps137
  go_wp2
  go_loopw [8] (fun i wr => ∃ k : Nat, k ≤ n ∧ i = .int .i64 k ∧ idxFrom p 0 l = idxFrom p k (l.drop k) ∧ Ext w wr) (fun i _ => n - (intOf i).toNat)
  case atStart => exact ⟨0, by omega, rfl, rfl, Ext.refl _⟩
  case round =>
    obtain ⟨k, hk, rfl, hkk, hx⟩ := hrel
    have HK := Lib.hid hkk; clear hkk
    by_cases hlt : k < n
    · obtain ⟨r, hrr⟩ := h.idx hlt
      obtain ⟨b, off, s, f, A1, n1, c1, A2, n2, c2, A3, n3, c3, A4, n4, c4, q, rfl, ⟨_, hne⟩, hv, c0, c1', c2', c3', c4', c5', c6'⟩ := (h.ext hx).rule hrr
      have HC := Lib.hid (HP.out wr s f A1 n1 c1 A2 n2 c2 A3 n3 c3 A4 n4 c4 q r hx hv (List.mem_of_getElem? hrr))
      have HD := Lib.hid (drop_cons hrr); clear hrr
      cases hr : p r
      · have HR := Lib.hid hr; clear hr
        go_wp2_with fail
        refine HC.out.mono ?_
        rintro e w1 ⟨rfl, hx1⟩
        rw [HR.out]
        go_wp2
        go_roundw
        case rel => exact ⟨k + 1, by omega, by go_num, by rw [HK.out, HD.out, idxFrom_no HR.out], hx.trans hx1⟩
        case measure => simp [intOf]; omega
      · have HR := Lib.hid hr; clear hr
        go_wp2_with fail
        refine HC.out.mono ?_
        rintro e w1 ⟨rfl, hx1⟩
        rw [HR.out]
        go_wp2
        go_ret
        rw [HK.out, HD.out, idxFrom_yes HR.out]
        exact ⟨rfl, hx.trans hx1⟩
    · go_wp2
      go_ret
      rw [HK.out, drop_end hlen.out hlt]
      exact ⟨rfl, hx⟩

set_option maxRecDepth 100000 in
set_option maxHeartbeats 800000 in
theorem firstAt_any (B1 B2 : Nat) (s f : Bool) (A1 : Option Addr) (n1 c1 : Nat) (A2 : Option Addr) (n2 c2 : Nat) (A3 : Option Addr) (n3 c3 : Nat) (A4 : Option Addr) (n4 c4 : Nat) (q : Int) (r : Rule) (w : World)
    (A : Option Addr) (n c : Nat) (t : List Int) (a : Nat) (h : Runes w A n c t) (hn : n ≤ 4000) (ha : a ≤ n)
    (hv : RuleV w s f A1 n1 c1 A2 n2 c2 A3 n3 c3 A4 n4 c4 q r) (hok : OkRule r)
    (h1 : w.cell? ⟨B1, 0, none⟩ = some (.iface 109 (.slice A n c))) (h2 : w.cell? ⟨B2, 0, none⟩ = some (.int .i64 a)) :
    Calls Try.prog 138 #[.agg #[.bool s, .bool f, .slice A1 n1 c1, .slice A2 n2 c2, .slice A3 n3 c3, .slice A4 n4 c4, .int .i64 q], .pointer (some ⟨B1, 0, none⟩), .pointer (some ⟨B2, 0, none⟩)] w
      fun e w' => e = .returned (.bool (here r t a)) ∧ Ext w w' := by
  have e1 := (Ext.refl w).alloc (.cells #[.bool s, .bool f, .slice A1 n1 c1, .slice A2 n2 c2, .slice A3 n3 c3, .slice A4 n4 c4, .int .i64 q] 25)
  have r1 := RuleAt.new (s := s) (f := f) (A1 := A1) (n1 := n1) (c1 := c1) (A2 := A2) (n2 := n2) (c2 := c2) (A3 := A3) (n3 := n3) (c3 := c3) (A4 := A4) (n4 := n4) (c4 := c4) (q := q) w 25
  have k1 := e1.cell h1
  have k2 := e1.cell h2
  have HC := Lib.hid (fun W (e : Ext w W) r1 => Here_any s f A1 n1 c1 A2 n2 c2 A3 n3 c3 A4 n4 c4 q r W A n c t w.heap.size 0 a (h.ext e) hn ha (hv.ext (e.agree top)) r1 hok)
  clear h hv hok h1 h2
  go_enter Try.func138, Try.ntmps138
  go_wp2_with (go_at_call 88; refine (HC.out _ e1 r1).mono ?_; rintro e w2 ⟨rfl, ex2⟩)
  go_ret
  exact ⟨rfl, e1.trans ex2⟩

set_option maxRecDepth 100000 in
set_option maxHeartbeats 800000 in
theorem First_any (A : Option Addr) (n c : Nat) (l : List Rule) (B : Option Addr) (m d : Nat) (t : List Int) (a : Nat) (w : World) (h : Rules w A n c l) (ht : Runes w B m d t) (hm : m ≤ 4000) (ha : a ≤ m) (hok : ∀ r ∈ l, OkRule r) :
    Calls Try.prog 90 #[.slice A n c, .iface 109 (.slice B m d), .int .i64 a] w fun e w' => e = .returned (.int .i64 (first l t a)) ∧ Ext w w' := by
  have hmf : ∀ (fn : Fn) (first cap : Array Value) (w : World), (Instr.makeFunc fn first cap).run Try.prog w = .ok (.func fn first cap) w := fun _ _ _ _ => rfl
  have eg : ∀ args w, (callFunc 138 args).run Try.prog w = .ok (.enter 138 args) w := enters Try.func138 (by kernel_rfl) rfl
  have ex : Ext w ((w.alloc (.cells #[.iface 109 (.slice B m d)] 147)).alloc (.cells #[.int .i64 a] 3)) := ((Ext.refl _).alloc _).alloc _
  have hp : PredRule 138 #[.pointer (some ⟨w.heap.size, 0, none⟩), .pointer (some ⟨w.heap.size + 1, 0, none⟩)] (fun r => here r t a) l ((w.alloc (.cells #[.iface 109 (.slice B m d)] 147)).alloc (.cells #[.int .i64 a] 3)) := by
    intro W s f A1 n1 c1 A2 n2 c2 A3 n3 c3 A4 n4 c4 q r hW hv hr
    exact firstAt_any _ _ s f A1 n1 c1 A2 n2 c2 A3 n3 c3 A4 n4 c4 q r W B m d t a (ht.ext (ex.trans hW)) hm ha hv (hok r hr) (hW.cell (by simp)) (hW.cell (by simp))
  have HC := Lib.hid (IndexRule_any A n c l _ _ _ _ eg hp (h.ext ex))
  clear hp
  go_enter Try.func90, Try.ntmps90
  go_wp2_with (go_at_call 137; refine HC.out.mono ?_; rintro e w1 ⟨rfl, hx⟩)
  go_ret
  exact ⟨rfl, ex.trans hx⟩

set_option maxRecDepth 100000 in
set_option maxHeartbeats 800000 in
theorem refWhich_any (A : Option Addr) (n c : Nat) (l : List Rule) (B : Option Addr) (m d : Nat) (t : List Int) (a : Nat) (w : World) (h : Rules w A n c l) (ht : Runes w B m d t) (hm : m ≤ 4000) (ha : a ≤ m) (hok : ∀ r ∈ l, OkRule r) :
    Calls Try.prog 35 #[.slice A n c, .slice B m d, .int .i64 a] w fun e w' => e = .returned (.int .i64 (first l t a)) ∧ Ext w w' := by
  have hmx := h.max; unfold maxLen at hmx
  have hcap := h.cap
  have hlen := Lib.hid h.len
  have htl := Lib.hid ht.len
  have HF : Hid (first l t a = idxFrom (fun r => here r t a) 0 l) := Lib.hid rfl
  have OK := Lib.hid hok; clear hok
  generalize hp : (fun r => here r t (a : Int)) = p at *
  have HP := Lib.hid hp; clear hp
  go_enter Try.func35, Try.ntmps35
  go_wp2
  go_loopw [10] (fun i wr => ∃ k : Nat, k ≤ n ∧ i = .int .i64 k ∧ first l t a = idxFrom p k (l.drop k) ∧ Ext w wr) (fun i _ => n - (intOf i).toNat)
  case atStart => exact ⟨0, by omega, rfl, HF.out, Ext.refl _⟩
  case round =>
    obtain ⟨k, hk, rfl, hkk, hx⟩ := hrel
    have HK := Lib.hid hkk; clear hkk
    by_cases hlt : k < n
    · obtain ⟨r, hrr⟩ := h.idx hlt
      obtain ⟨b, off, s, f, A1, n1, c1, A2, n2, c2, A3, n3, c3, A4, n4, c4, q, rfl, ⟨_, hne⟩, hv, c0, c1', c2', c3', c4', c5', c6'⟩ := (h.ext hx).rule hrr
      have ok := OK.out r (List.mem_of_getElem? hrr)
      have hb1 := ok.lb; have hb2 := ok.ls; have hb3 := ok.la
      rw [hv.before.len] at hb1; rw [hv.source.len] at hb2; rw [hv.after.len] at hb3
      have HC := Lib.hid (refMatches_any s f A1 n1 c1 A2 n2 c2 A3 n3 c3 A4 n4 c4 q r wr B m d t a (ht.ext hx) hm ha hb1 hb2 hb3 hv)
      have HD := Lib.hid (drop_cons hrr); clear hrr
      have HE : Hid (refMatch r t a = p r) := Lib.hid (by rw [ref_here ok.s0 (by rw [htl.out]; exact ha), ← HP.out])
      clear hv ok
      cases hr : p r
      · have HR := Lib.hid hr; clear hr
        go_wp2_with (go_at_call 28; refine HC.out.mono ?_; rintro e w1 ⟨rfl, hx1⟩; rw [HE.out, HR.out])
        go_roundw
        case rel => exact ⟨k + 1, by omega, by go_num, by rw [HK.out, HD.out, idxFrom_no HR.out], hx.trans hx1⟩
        case measure => simp [intOf]; omega
      · have HR := Lib.hid hr; clear hr
        go_wp2_with (go_at_call 28; refine HC.out.mono ?_; rintro e w1 ⟨rfl, hx1⟩; rw [HE.out, HR.out])
        go_ret
        rw [HK.out, HD.out, idxFrom_yes HR.out]
        exact ⟨rfl, hx.trans hx1⟩
    · go_wp2
      go_ret
      rw [HK.out, drop_end hlen.out hlt]
      exact ⟨rfl, hx⟩

end Go.Proofs.Ytfdkbhbnldcbmaa
