/- Walks: whether rules always go on; how far they look. Walks: the rules that others mask. Walks: whether one rule masks another; the law's own closed fact. Walk: whether rule i masks rule j. -/
import Derived.Test.YtfdkbhbnldcbmaaW14
import Derived.Test.YtfdkbhbnldcbmaaW19
import Derived.Test.YtfdkbhbnldcbmaaW13
namespace Go.Proofs.Ytfdkbhbnldcbmaa
open Go.RowKit
set_option linter.unusedVariables false
set_option linter.unusedSimpArgs false

theorem ContainsRule_any (A : Option Addr) (n c : Nat) (l : List Rule) (w : World) (g : FuncId) (caps : Array Value) (p : Rule → Bool)
    (eg : ∀ args w, (callFunc g args).run Try.prog w = .ok (.enter g args) w) (hp : PredRule g caps p l w) (h : Rules w A n c l) :
    Calls Try.prog 95 #[.slice A n c, .func (.func g) #[] caps] w fun e w' => e = .returned (.bool (l.any p)) ∧ Ext w w' := by
  have HC := Lib.hid (IndexRule_any A n c l w g caps p eg hp h)
  have hm := h.max; unfold maxLen at hm
  have hb := idxFrom_le p 0 l
  have hg := Lib.hid (idxFrom_geq p 0 l)
  clear eg hp h
  generalize idxFrom p 0 l = z at *
  go_enter Try.func95, Try.ntmps95
  go_wp2_with (go_at_call 137; refine HC.out.mono ?_; rintro e w' ⟨rfl, hx⟩)
  go_ret
  rw [← hg.out]
  exact ⟨rfl, hx⟩

set_option maxRecDepth 100000 in
theorem sureAt_any (s f : Bool) (A1 : Option Addr) (n1 c1 : Nat) (A2 : Option Addr) (n2 c2 : Nat) (A3 : Option Addr) (n3 c3 : Nat) (A4 : Option Addr) (n4 c4 : Nat) (q : Int) (r : Rule) (w : World) (hv : RuleV w s f A1 n1 c1 A2 n2 c2 A3 n3 c3 A4 n4 c4 q r) :
    Calls Try.prog 96 #[.agg #[.bool s, .bool f, .slice A1 n1 c1, .slice A2 n2 c2, .slice A3 n3 c3, .slice A4 n4 c4, .int .i64 q]] w
      fun e w' => e = .returned (.bool (q != (n4 : Int))) ∧ Ext w w' := by
  have e1 := (Ext.refl w).alloc (.cells #[.bool s, .bool f, .slice A1 n1 c1, .slice A2 n2 c2, .slice A3 n3 c3, .slice A4 n4 c4, .int .i64 q] 25)
  clear hv
  go_enter Try.func96, Try.ntmps96
  go_wp2
  go_ret
  exact ⟨rfl, e1⟩

theorem any_not_sure (l : List Rule) : (l.any fun r => (r.cursor != (r.target.length : Int))) = !sureR l := by
  unfold sureR
  induction l with
  | nil => rfl
  | cons x l ih =>
    rw [List.any_cons, List.all_cons, ih]
    have : (x.cursor != (x.target.length : Int)) = !decide (x.cursor = x.target.length) := by
      by_cases h : x.cursor = x.target.length
      · rw [decide_eq_true h, h]; simp
      · rw [decide_eq_false h]; simpa using h
    rw [this]
    cases decide (x.cursor = x.target.length) <;> simp

set_option maxRecDepth 100000 in
theorem Sure_any (A : Option Addr) (n c : Nat) (l : List Rule) (w : World) (h : Rules w A n c l) :
    Calls Try.prog 41 #[.slice A n c] w fun e w' => e = .returned (.bool (sureR l)) ∧ Ext w w' := by
  have hmf : ∀ (fn : Fn) (first cap : Array Value) (w : World), (Instr.makeFunc fn first cap).run Try.prog w = .ok (.func fn first cap) w := fun _ _ _ _ => rfl
  have eg : ∀ args w, (callFunc 96 args).run Try.prog w = .ok (.enter 96 args) w := enters Try.func96 (by kernel_rfl) rfl
  have hp : PredRule 96 #[] (fun r => (r.cursor != (r.target.length : Int))) l w := by
    intro W s f A1 n1 c1 A2 n2 c2 A3 n3 c3 A4 n4 c4 q r hW hv hr
    have := sureAt_any s f A1 n1 c1 A2 n2 c2 A3 n3 c3 A4 n4 c4 q r W hv
    have e1 : (r.cursor != (r.target.length : Int)) = (q != (n4 : Int)) := by rw [hv.cursor, hv.target.len]
    simp only [e1]
    exact this
  have HC := Lib.hid (ContainsRule_any A n c l w _ _ _ eg hp h)
  have HS := Lib.hid (any_not_sure l)
  clear hp h
  generalize (l.any fun r => (r.cursor != (r.target.length : Int))) = x at *
  go_enter Try.func41, Try.ntmps41
  go_wp2_with (go_at_call 95; refine HC.out.mono ?_; rintro e w1 ⟨rfl, hx⟩)
  go_ret
  rw [show sureR l = !x by rw [HS.out]; simp]
  exact ⟨rfl, hx⟩

set_option maxRecDepth 100000 in
set_option maxHeartbeats 800000 in
theorem Reach_any (A : Option Addr) (n c : Nat) (l : List Rule) (w : World) (h : Rules w A n c l) (hok : ∀ r ∈ l, OkRule r) :
    Calls Try.prog 39 #[.slice A n c] w fun e w' => e = .returned (.tuple #[.int .i64 (reachB l 0 0).1, .int .i64 (reachB l 0 0).2]) ∧ Ext w w' := by
  have hm := h.max; unfold maxLen at hm
  have hcap := h.cap
  have hlen := Lib.hid h.len
  have OK := Lib.hid hok; clear hok
  go_enter Try.func39, Try.ntmps39
  go_wp2
  go_loopw [2, 3, 8] (fun u v i wr => ∃ k : Nat, k ≤ n ∧ i = .int .i64 k ∧ u = .int .i64 (reachB (l.take k) 0 0).1 ∧ v = .int .i64 (reachB (l.take k) 0 0).2 ∧ Ext w wr) (fun _ _ i _ => n - (intOf i).toNat)
  case atStart => exact ⟨0, by omega, rfl, rfl, rfl, Ext.refl _⟩
  case round =>
    obtain ⟨k, hk, rfl, rfl, rfl, hx⟩ := hrel
    by_cases hlt : k < n
    · obtain ⟨r, hrr⟩ := h.idx hlt
      obtain ⟨b, off, s, f, A1, n1, c1, A2, n2, c2, A3, n3, c3, A4, n4, c4, q, rfl, ⟨_, hne⟩, hv, k0, k1, k2, k3, k4, k5, k6⟩ := (h.ext hx).rule hrr
      have ok := OK.out r (List.mem_of_getElem? hrr)
      have l1 := ok.lb; have l2 := ok.ls; have l3 := ok.la
      rw [hv.before.len] at l1; rw [hv.source.len] at l2; rw [hv.after.len] at l3
      have hb := reachB_le (l.take k) 0 0 (fun x hx => OK.out x (List.mem_of_mem_take hx)) (by omega) (by omega)
      have HS : Hid (reachB (l.take (k + 1)) 0 0 = (max (reachB (l.take k) 0 0).1 n1, max (reachB (l.take k) 0 0).2 (n2 + n3))) := Lib.hid (by
        rw [take_snoc hrr, reachB_snoc, hv.before.len, hv.source.len, hv.after.len])
      clear hrr ok hv
      generalize (reachB (l.take k) 0 0).1 = x at *
      generalize (reachB (l.take k) 0 0).2 = y at *
      have hw : IntKind.i64.wrap ((n2 : Int) + n3) = (n2 : Int) + n3 := IntWalk.i64_in _ (by omega)
      go_wp2
      go_quiet (fail)
      clear hw
      go_wp2
      go_roundw
      case rel => exact ⟨k + 1, by omega, by go_num, by rw [HS.out]; go_num, by rw [HS.out]; go_num, (hx.alloc _).drewN _⟩
      case measure => simp [intOf]; omega
    · go_wp2
      go_ret2
      rw [take_all hlen.out (by omega)]
      exact ⟨rfl, hx⟩

end Go.Proofs.Ytfdkbhbnldcbmaa

namespace Go.Proofs.Ytfdkbhbnldcbmaa
open Go.RowKit
set_option linter.unusedVariables false
set_option linter.unusedSimpArgs false

theorem T_rule : ElemT Try.prog 36 25 7 112 := elemT Try.underlying36 (z := .agg #[.bool false, .bool false, .slice none 0 0, .slice none 0 0, .slice none 0 0, .slice none 0 0, .int .i64 0]) (by kernel_rfl) rfl (by omega)
theorem T_int : ElemT Try.prog 64 3 1 8 := elemT Try.underlying64 (z := .int .i64 0) (by kernel_rfl) rfl (by omega)
theorem one_newI (w : World) (x : Int) (t : TypeId) (hx : i64 x) : Ints (w.alloc (.cells #[.int .i64 x] t)) (some ⟨w.heap.size, 0, none⟩) 1 1 [x] := by
  refine SlR.fresh rfl (by unfold maxLen; omega) fun k u huu => ?_
  match k, huu with
  | 0, huu => cases huu; exact ⟨[.int .i64 x], rfl, ⟨rfl, hx⟩, fun j v hv => by match j, hv with | 0, hv => simpa using hv⟩

/-- 'masks(&a, &l[i])', l and i captured -/
theorem maskAt_any (B1 B2 : Nat) (s f : Bool) (A1 : Option Addr) (n1 c1 : Nat) (A2 : Option Addr) (n2 c2 : Nat) (A3 : Option Addr) (n3 c3 : Nat) (A4 : Option Addr) (n4 c4 : Nat) (q : Int) (r : Rule) (w : World) (hv : RuleV w s f A1 n1 c1 A2 n2 c2 A3 n3 c3 A4 n4 c4 q r)
    (A : Option Addr) (n c : Nat) (l : List Rule) (h : Rules w A n c l) (i : Nat) (b : Rule) (hb : l[i]? = some b) (okr : OkRule r) (okb : OkRule b)
    (h0 : w.cell? ⟨B1, 0, none⟩ = some (.slice A n c)) (h1 : w.cell? ⟨B2, 0, none⟩ = some (.int .i64 i)) :
    Calls Try.prog 102 #[.agg #[.bool s, .bool f, .slice A1 n1 c1, .slice A2 n2 c2, .slice A3 n3 c3, .slice A4 n4 c4, .int .i64 q], .pointer (some ⟨B1, 0, none⟩), .pointer (some ⟨B2, 0, none⟩)] w
      fun e w' => e = .returned (.bool (masksB r b)) ∧ Ext w w' := by
  have hm := h.max; unfold maxLen at hm
  have hcap := h.cap
  have hi : i < n := by rw [← h.len]; exact lt_of_get hb
  have e1 := (Ext.refl w).alloc (.cells #[.bool s, .bool f, .slice A1 n1 c1, .slice A2 n2 c2, .slice A3 n3 c3, .slice A4 n4 c4, .int .i64 q] 25)
  have r1 := RuleAt.new (s := s) (f := f) (A1 := A1) (n1 := n1) (c1 := c1) (A2 := A2) (n2 := n2) (c2 := c2) (A3 := A3) (n3 := n3) (c3 := c3) (A4 := A4) (n4 := n4) (c4 := c4) (q := q) w 25
  obtain ⟨b1, o1, s', f', A1', n1', c1', A2', n2', c2', A3', n3', c3', A4', n4', c4', q', rfl, ⟨_, hne⟩, hv', k0, k1, k2, k3, k4, k5, k6⟩ := h.rule hb
  have HC := Lib.hid (masks_any w.heap.size 0 b1 (o1 + i * 7) r b _ ⟨s, f, A1, n1, c1, A2, n2, c2, A3, n3, c3, A4, n4, c4, q, r1, hv.ext (e1.agree top)⟩
    ⟨s', f', A1', n1', c1', A2', n2', c2', A3', n3', c3', A4', n4', c4', q', ⟨e1.cell k0, e1.cell k1, e1.cell k2, e1.cell k3, e1.cell k4, e1.cell k5, e1.cell k6⟩, hv'.ext (e1.agree top)⟩ okr okb)
  have z0 := e1.cell h0; have z1 := e1.cell h1
  have p0 := World.block_lt_of_cell? _ _ h0; have p1 := World.block_lt_of_cell? _ _ h1
  clear hv hv' r1 hb k0 k1 k2 k3 k4 k5 k6
  have hi' : (i : Int) < (n : Int) := by omega
  go_enter Try.func102, Try.ntmps102
  go_wp2_with (go_at_call 94; refine HC.out.mono ?_; rintro e w1 ⟨rfl, hx⟩)
  go_ret
  exact ⟨rfl, e1.trans hx⟩

/-- what Masked hands back -/
def MaskedR (base : Nat) (l : List Rule) (w' : World) (e : Ending) : Prop :=
  ∃ A c, e = .returned (.tuple #[.slice A (maskedTo l l.length).length c, .agg #[.int .i64 0, .int .i64 0]]) ∧ SlR rInt 1 (fun b => base ≤ b) w' A (maskedTo l l.length).length c ((maskedTo l l.length).map fun i : Nat => (i : Int))

set_option maxRecDepth 100000 in
set_option maxHeartbeats 2000000 in
theorem Masked_ok (A : Option Addr) (n c : Nat) (l : List Rule) (w : World) (h : Rules w A n c l) (hr : (wrongRules l).1 = 0) :
    Calls Try.prog 45 #[.slice A n c] w fun e w' => MaskedR w.heap.size l w' e ∧ Ext w w' := by
  obtain ⟨hr0, hl2, hok⟩ := wrongRules_zero hr
  rw [h.len] at hl2
  have hcap := h.cap
  have hlen := Lib.hid h.len
  have HR := Lib.hid hr0
  have OK := Lib.hid hok
  clear hr hr0 hok
  have hmf : ∀ (fn : Fn) (first cap : Array Value) (w : World), (Instr.makeFunc fn first cap).run Try.prog w = .ok (.func fn first cap) w := fun _ _ _ _ => rfl
  have eg : ∀ args w, (callFunc 102 args).run Try.prog w = .ok (.enter 102 args) w := enters Try.func102 (by kernel_rfl) rfl
  have e1 : Ext w ((w.alloc (.cells #[.slice A n c] 36)).alloc (.cells #[.int .i64 0, .int .i64 0] 38)) := ((Ext.refl w).alloc _).alloc _
  have k0 : ((w.alloc (.cells #[.slice A n c] 36)).alloc (.cells #[.int .i64 0, .int .i64 0] 38)).cell? ⟨w.heap.size, 0, none⟩ = some (.slice A n c) := by simp
  have k1 : ((w.alloc (.cells #[.slice A n c] 36)).alloc (.cells #[.int .i64 0, .int .i64 0] 38)).cell? ⟨w.heap.size + 1, 0, none⟩ = some (.int .i64 0) := by simp
  have k2 : ((w.alloc (.cells #[.slice A n c] 36)).alloc (.cells #[.int .i64 0, .int .i64 0] 38)).cell? ⟨w.heap.size + 1, 1, none⟩ = some (.int .i64 0) := by simp
  have wb := Wr.new (w.alloc (.cells #[.slice A n c] 36)) #[.int .i64 0, .int .i64 0] 38
  rw [World.size_alloc] at wb
  have hs0 : w.heap.size + 2 ≤ ((w.alloc (.cells #[.slice A n c] 36)).alloc (.cells #[.int .i64 0, .int .i64 0] 38)).heap.size := by simp
  have HC := Lib.hid (Wrongs_any A n c l _ (h.ext e1))
  go_enter Try.func45, Try.ntmps45
  go_wp2_with fail
  generalize (w.alloc (.cells #[.slice A n c] 36)).alloc (.cells #[.int .i64 0, .int .i64 0] 38) = w1 at *
  go_wp2_with (go_at_call 31; refine HC.out.mono ?_; rintro e w2 ⟨rfl, hx2⟩; rw [HR.out]; have x12 := hx2.alloc (.cells #[.int .i64 0, .int .i64 0] 38); have j0 := hx2.cell k0; have j1 : w.heap.size < w2.heap.size := by have := hx2.size; omega)
  have o0 := OwnR.nil rInt 3 1 w1.heap.size (w2.alloc (.cells #[.int .i64 0, .int .i64 0] 38))
  clear HC j0 j1
  generalize w2.alloc (.cells #[.int .i64 0, .int .i64 0] 38) = w3 at *
  go_loopw [5, 15] (fun v i wr => ∃ k : Nat, k ≤ n ∧ i = .int .i64 k ∧ OwnR rInt 3 1 w1.heap.size wr v ((maskedTo l k).map fun i : Nat => (i : Int)) ∧ Ext w1 wr) (fun _ i _ => n - (intOf i).toNat)
  case atStart => exact ⟨0, by omega, rfl, o0, x12⟩
  case round =>
    obtain ⟨k, hk, rfl, ow, hx⟩ := hrel
    have ex := e1.trans hx
    have y0 := hx.cell k0; have y1 := hx.cell k1; have y2 := hx.cell k2
    have yz := (wb.ext hx).2
    have hw0 : w.heap.size + 2 ≤ wr.heap.size := by have := hx.size; omega
    have hw1 : w.heap.size < wr.heap.size := by omega
    have hw2 : w.heap.size + 1 < wr.heap.size := by omega
    by_cases hlt : k < n
    · obtain ⟨b, hbb⟩ := h.idx hlt
      have okb := OK.out b (List.mem_of_getElem? hbb)
      have ea := (Ext.refl wr).alloc (.cells #[.int .i64 k] 3)
      have exa := ex.trans ea
      have z0 := ea.cell y0
      have z1 := cell_new wr #[.int .i64 k] 3 0 (.int .i64 k) rfl
      have hp : PredRule 102 #[.pointer (some ⟨w.heap.size, 0, none⟩), .pointer (some ⟨wr.heap.size, 0, none⟩)] (fun a => masksB a b) (l.take k) (wr.alloc (.cells #[.int .i64 k] 3)) := by
        intro W s f A1 n1 c1 A2 n2 c2 A3 n3 c3 A4 n4 c4 q r hW hv hr
        exact maskAt_any _ _ s f A1 n1 c1 A2 n2 c2 A3 n3 c3 A4 n4 c4 q r W hv A n c l (h.ext (exa.trans hW)) k b hbb (OK.out r (List.mem_of_mem_take hr)) okb (hW.cell z0) (hW.cell z1)
      have HC := Lib.hid (ContainsRule_any A k c (l.take k) _ _ _ _ eg hp ((h.ext exa).take (by omega)))
      have HM := Lib.hid (isMasked_at hbb)
      have Z1 := Lib.hid z1
      have hs1 := fun W => run_cut_h T_rule A n c (k : Int) k rfl (by omega) W
      clear hp hbb okb z0 z1
      cases hm : isMasked l k
      · have HMk := Lib.hid (maskedTo_no hm)
        have HM2 := Lib.hid hm; clear hm
        go_wp2_with (go_at_call 95; refine HC.out.mono ?_; rintro e w4 ⟨rfl, hx4⟩; rw [← HM.out, HM2.out])
        go_roundw
        case rel => exact ⟨k + 1, by omega, by go_num, by rw [HMk.out]; exact ow.ext (keep_int bot) (ea.trans hx4), hx.trans (ea.trans hx4)⟩
        case measure => simp [intOf]; omega
      · have HMk := Lib.hid (maskedTo_yes hm)
        have HM2 := Lib.hid hm; clear hm
        have hml := maskedTo_len l k
        go_wp2_with (first
          | (go_at_call 95; refine HC.out.mono ?_; rintro e w4 ⟨rfl, hx4⟩; rw [← HM.out, HM2.out]; have v1 := hx4.cell Z1.out; have f4 := ea.trans hx4; have ow4 := ow.ext (keep_int bot) f4; have f5 := f4.alloc (.cells #[.int .i64 k] 3); have s5 := one_newI w4 k 3 (by unfold i64; omega); have ow5 := ow4.ext (keep_int bot) ((Ext.refl w4).alloc (.cells #[.int .i64 k] 3)); have g5 := hx.trans f5)
          | (at_builtin
             refine wpList_appS T_int (by omega) rfl (.tmp 23) (.tmp 25) rfl rfl ow5 rfl s5 (fun _ _ h => h) one_int (keep_int bot) (bot_no _) ?_ g5.size ?_
             · rw [List.length_map]; omega
             intro v6 w6 o6 g6 hat6
             have g7 := g5.app g6 ow5))
        go_roundw
        case rel => exact ⟨k + 1, by omega, by go_num, by rw [HMk.out, List.map_append]; exact o6, g7⟩
        case measure => simp [intOf]; omega
    · have e : k = n := by omega
      subst e
      obtain ⟨AO, cO, rfl, sO⟩ := ow.sl
      go_wp2
      simp only [List.length_map] at sO
      refine bodyPost_ret (v := .tuple #[.slice AO (maskedTo l k).length cO, .agg #[.int .i64 0, .int .i64 0]]) (by simp [results, Try.results45, go_sem, y1, y2]) rfl ?_
      refine ⟨⟨AO, cO, by rw [hlen.out], ?_⟩, ext_set (ext_set ex (by omega) _ _) (by omega) _ _⟩
      rw [hlen.out]
      exact ((sO.far (keep_int _) (fun b hb => by omega)).far (keep_int _) (fun b hb => by omega)).mono (fun _ _ h => h) (fun b hb => by omega)

end Go.Proofs.Ytfdkbhbnldcbmaa

namespace Go.Proofs.Ytfdkbhbnldcbmaa
open Go.RowKit
set_option linter.unusedVariables false
set_option linter.unusedSimpArgs false

/-- what Masks hands back -/
def maskF (l : List Rule) (i j : Int) : Int × Nat := if (wrongRules l).1 ≠ 0 then wrongRules l else if i < 0 ∨ j < 0 ∨ (l.length : Int) ≤ i ∨ (l.length : Int) ≤ j then (3, 0) else (0, 0)
def maskV (l : List Rule) (i j : Int) : Bool := decide ((maskF l i j).1 = 0) && masksB (l.getD i.toNat default) (l.getD j.toNat default)

/-- what Masked hands back where rules are wrong -/
theorem Masked_bad (A : Option Addr) (n c : Nat) (l : List Rule) (w : World) (h : Rules w A n c l) (hr : (wrongRules l).1 ≠ 0) :
    Calls Try.prog 45 #[.slice A n c] w fun e w' => e = .returned (.tuple #[.slice none 0 0, .agg #[.int .i64 (wrongRules l).1, .int .i64 (wrongRules l).2]]) ∧ Ext w w' := by
  have e1 : Ext w ((w.alloc (.cells #[.slice A n c] 36)).alloc (.cells #[.int .i64 0, .int .i64 0] 38)) := ((Ext.refl w).alloc _).alloc _
  have k1 : ((w.alloc (.cells #[.slice A n c] 36)).alloc (.cells #[.int .i64 0, .int .i64 0] 38)).cell? ⟨w.heap.size + 1, 0, none⟩ = some (.int .i64 0) := by simp
  have k2 : ((w.alloc (.cells #[.slice A n c] 36)).alloc (.cells #[.int .i64 0, .int .i64 0] 38)).cell? ⟨w.heap.size + 1, 1, none⟩ = some (.int .i64 0) := by simp
  have wb := Wr.new (w.alloc (.cells #[.slice A n c] 36)) #[.int .i64 0, .int .i64 0] 38
  rw [World.size_alloc] at wb
  have hs0 : w.heap.size + 2 ≤ ((w.alloc (.cells #[.slice A n c] 36)).alloc (.cells #[.int .i64 0, .int .i64 0] 38)).heap.size := by simp
  have HC := Lib.hid (Wrongs_any A n c l _ (h.ext e1))
  have hr' : ((wrongRules l).1 != 0) = true := by simpa using hr
  clear hr
  generalize (wrongRules l).1 = p1 at *
  generalize (wrongRules l).2 = p2 at *
  go_enter Try.func45, Try.ntmps45
  go_wp2_with fail
  generalize (w.alloc (.cells #[.slice A n c] 36)).alloc (.cells #[.int .i64 0, .int .i64 0] 38) = w1 at *
  go_wp2_with (go_at_call 31; refine HC.out.mono ?_; rintro e w2 ⟨rfl, hx2⟩; have x12 := hx2.alloc (.cells #[.int .i64 p1, .int .i64 p2] 38); have v0 := hx2.cell k1; have v1 := hx2.cell k2; have vz := (wb.ext hx2).2; have n1 := wb.lt hx2)
  go_region
  go_wp2
  refine bodyPost_ret (v := .tuple #[.slice none 0 0, .agg #[.int .i64 p1, .int .i64 p2]]) (by simp [results, Try.results45, go_sem, v0, v1, n1]) rfl ?_
  exact ⟨rfl, by refine Ext.drew ?_; repeat (first | exact e1.trans x12 | exact (e1.trans hx2) | refine ext_set ?_ (by omega) _ _ | refine Ext.alloc ?_ _)⟩

theorem one9_any (r : Int) (w : World) (hr : i32 r) :
    Calls Try.prog 93 #[.int .i32 r] w fun e w' => e = .returned (.slice (some ⟨w.heap.size, 0, none⟩) 1 1) ∧ Spans w' (some ⟨w.heap.size, 0, none⟩) 1 1 [⟨r, r⟩] ∧ Ext w w' := by
  have e1 := (Ext.refl w).alloc (.cells #[.int .i32 r, .int .i32 r] 80)
  have s1 : Spans (w.alloc (.cells #[.int .i32 r, .int .i32 r] 80)) (some ⟨w.heap.size, 0, none⟩) 1 1 [⟨r, r⟩] :=
    SlR.fresh rfl (by unfold maxLen; omega) fun k x hx => by
      match k, hx with
      | 0, hx => cases hx; exact ⟨[.int .i32 r, .int .i32 r], rfl, ⟨rfl, hr, hr⟩, fun j u hu => by match j, hu with | 0, hu => simpa using hu | 1, hu => simpa using hu⟩
  go_enter Try.func93, Try.ntmps93
  go_wp2
  go_ret
  exact ⟨rfl, s1, e1⟩

def ra9 : Rule := ⟨false, false, [], [[⟨97, 97⟩]], [], [], 0⟩

theorem ra9_rules (w : World) (b : Nat) (hb : Sets w (some ⟨b, 0, none⟩) 1 1 [[⟨97, 97⟩]]) : rRule w [.bool false, .bool false, .slice none 0 0, .slice (some ⟨b, 0, none⟩) 1 1, .slice none 0 0, .slice none 0 0, .int .i64 0] ra9 :=
  ⟨false, false, none, 0, 0, _, 1, 1, none, 0, 0, none, 0, 0, 0, rfl, ⟨rfl, rfl, SlR.nil _ _ _ _ _ _ (by unfold maxLen; omega), hb, SlR.nil _ _ _ _ _ _ (by unfold maxLen; omega), SlR.nil _ _ _ _ _ _ (by unfold maxLen; omega), rfl, by unfold i64; omega⟩⟩

theorem rules1_new {w : World} {cs : List Value} {r : Rule} (t : TypeId) (h7 : cs.length = 7) (h : rRule w cs r) : Rules (w.alloc (.cells cs.toArray t)) (some ⟨w.heap.size, 0, none⟩) 1 1 [r] :=
  SlR.fresh rfl (by unfold maxLen; omega) fun k x hx => by
    match k, hx with
    | 0, hx => cases hx; exact ⟨cs, h7, keep_rule _ _ _ _ (((Ext.refl w).alloc _).agree top) h, fun j u hu => by simpa using hu⟩
theorem rules2_new {w : World} {cs : List Value} {r : Rule} (t : TypeId) (h7 : cs.length = 7) (h : rRule w cs r) : Rules (w.alloc (.cells (cs ++ cs).toArray t)) (some ⟨w.heap.size, 0, none⟩) 2 2 [r, r] :=
  SlR.fresh rfl (by unfold maxLen; omega) fun k x hx => by
    have hj : ∀ {j : Nat} {u : Value}, cs[j]? = some u → j < 7 := fun hu => by have := lt_of_get hu; omega
    match k, hx with
    | 0, hx => cases hx; exact ⟨cs, h7, keep_rule _ _ _ _ (((Ext.refl w).alloc _).agree top) h, fun j u hu => by have := hj hu; simp only [Nat.zero_mul, Nat.zero_add, List.getElem?_toArray]; rw [List.getElem?_append_left (by omega)]; exact hu⟩
    | 1, hx => cases hx; exact ⟨cs, h7, keep_rule _ _ _ _ (((Ext.refl w).alloc _).agree top) h, fun j u hu => by have := hj hu; simp only [Nat.one_mul, List.getElem?_toArray]; rw [List.getElem?_append_right (by omega), h7, show 7 + j - 7 = j by omega]; exact hu⟩

theorem sets1_new {w : World} {b : Nat} {x : List Sp} (t : TypeId) (h : Spans w (some ⟨b, 0, none⟩) 1 1 x) : Sets (w.alloc (.cells #[.slice (some ⟨b, 0, none⟩) 1 1] t)) (some ⟨w.heap.size, 0, none⟩) 1 1 [x] :=
  SlR.fresh rfl (by unfold maxLen; omega) fun k u hu => by
    match k, hu with
    | 0, hu => cases hu; exact ⟨[.slice (some ⟨b, 0, none⟩) 1 1], rfl, ⟨_, 1, 1, rfl, h.ext ((Ext.refl w).alloc _)⟩, fun j v hv => by match j, hv with | 0, hv => simpa using hv⟩

theorem masked9 : maskedTo [ra9, ra9] [ra9, ra9].length = [1] := by decide
theorem wrong9 : (wrongRules [ra9, ra9]).1 = 0 := by decide
theorem wrong9' : (wrongRules [ra9]).1 = 0 := by decide

set_option maxRecDepth 100000 in
set_option maxHeartbeats 2000000 in
theorem alive9_any (w : World) : Calls Try.prog 38 #[] w fun e w' => e = .returned (.bool true) ∧ Ext w w' := by
  have HS : Hid (∀ W, Calls Try.prog 41 #[.slice none 0 0] W fun e w' => e = .returned (.bool true) ∧ Ext W w') := Lib.hid (fun W => Sure_any none 0 0 [] W (SlR.nil _ _ _ _ _ _ (by unfold maxLen; omega)))
  have HC := Lib.hid (fun W A (h : Rules W A 2 2 [ra9, ra9]) => (Masked_ok A 2 2 [ra9, ra9] W h wrong9).mono (R' := fun e w' => (∃ A c, e = .returned (.tuple #[.slice A 1 c, .agg #[.int .i64 0, .int .i64 0]]) ∧ Ints w' A 1 c [1]) ∧ Ext W w') fun e w' hh => by
    obtain ⟨⟨AO, cO, he, hs⟩, hx⟩ := hh
    rw [masked9] at he hs
    exact ⟨⟨AO, cO, he, hs.mono (fun _ _ h => h) (fun _ _ => trivial)⟩, hx⟩)
  have HR : Hid (∀ W A, Rules W A 1 1 [ra9] → Calls Try.prog 39 #[.slice A 1 1] W fun e w' => e = .returned (.tuple #[.int .i64 0, .int .i64 1]) ∧ Ext W w') := Lib.hid (fun W A (h : Rules W A 1 1 [ra9]) => Reach_any A 1 1 [ra9] W h (wrongRules_zero wrong9').2.2)
  go_enter Try.func38, Try.ntmps38
  go_upto_region 2 with (go_at_call 93; refine (one9_any 97 _ (by unfold i32; omega)).mono ?_; rintro e w1 ⟨rfl, s1, x1⟩)
  have hb := (sets1_new 67 s1).ext ((Ext.refl _).alloc (.cells #[.bool false, .bool false, .slice none 0 0, .slice (some ⟨w1.heap.size, 0, none⟩) 1 1, .slice none 0 0, .slice none 0 0, .int .i64 0] 25))
  have hr := RuleAt.new (s := false) (f := false) (A1 := none) (n1 := 0) (c1 := 0) (A2 := some ⟨w1.heap.size, 0, none⟩) (n2 := 1) (c2 := 1) (A3 := none) (n3 := 0) (c3 := 0) (A4 := none) (n4 := 0) (c4 := 0) (q := 0) (w1.alloc (.cells #[.slice (some ⟨w.heap.size, 0, none⟩) 1 1] 67)) 25
  have e2 := (x1.alloc (.cells #[.slice (some ⟨w.heap.size, 0, none⟩) 1 1] 67)).alloc (.cells #[.bool false, .bool false, .slice none 0 0, .slice (some ⟨w1.heap.size, 0, none⟩) 1 1, .slice none 0 0, .slice none 0 0, .int .i64 0] 25)
  rw [World.size_alloc] at hr
  generalize (w1.alloc (.cells #[.slice (some ⟨w.heap.size, 0, none⟩) 1 1] 67)).alloc (.cells #[.bool false, .bool false, .slice none 0 0, .slice (some ⟨w1.heap.size, 0, none⟩) 1 1, .slice none 0 0, .slice none 0 0, .int .i64 0] 25) = w2 at *
  have hq2 : Rules (w2.alloc (.cells #[.bool false, .bool false, .slice none 0 0, .slice (some ⟨w1.heap.size, 0, none⟩) 1 1, .slice none 0 0, .slice none 0 0, .int .i64 0, .bool false, .bool false, .slice none 0 0, .slice (some ⟨w1.heap.size, 0, none⟩) 1 1, .slice none 0 0, .slice none 0 0, .int .i64 0] 25)) (some ⟨w2.heap.size, 0, none⟩) 2 2 [ra9, ra9] := rules2_new (w := w2) 25 rfl (ra9_rules w2 _ hb)
  have H2 := Lib.hid (HC.out _ _ hq2)
  obtain ⟨r0, r1, r2, r3, r4, r5, r6⟩ := hr.box
  have hlt := World.block_lt_of_cell? _ _ r0
  go_upto_region 3 with (go_at_call 45; refine H2.out.mono ?_; rintro e w3 ⟨⟨AO, cO, rfl, sO⟩, x3⟩)
  clear r0 r1 r2 r3 r4 r5 r6 hlt
  have x23 := ((Ext.refl w2).alloc (.cells #[.bool false, .bool false, .slice none 0 0, .slice (some ⟨w1.heap.size, 0, none⟩) 1 1, .slice none 0 0, .slice none 0 0, .int .i64 0, .bool false, .bool false, .slice none 0 0, .slice (some ⟨w1.heap.size, 0, none⟩) 1 1, .slice none 0 0, .slice none 0 0, .int .i64 0] 25)).trans x3
  have e3 := e2.trans x23
  obtain ⟨r0, r1, r2, r3, r4, r5, r6⟩ := (hr.ext x23).box
  have hlt := World.block_lt_of_cell? _ _ r0
  have x34 := (Ext.refl w3).alloc (.cells #[.int .i64 0, .int .i64 0] 38)
  have K0 := Lib.hid (cell_new w3 #[.int .i64 0, .int .i64 0] 38 0 (.int .i64 0) rfl)
  have hq3 : Rules ((w3.alloc (.cells #[.int .i64 0, .int .i64 0] 38)).alloc (.cells #[.bool false, .bool false, .slice none 0 0, .slice (some ⟨w1.heap.size, 0, none⟩) 1 1, .slice none 0 0, .slice none 0 0, .int .i64 0] 25)) (some ⟨w3.heap.size + 1, 0, none⟩) 1 1 [ra9] := by
    have := rules1_new (w := w3.alloc (.cells #[.int .i64 0, .int .i64 0] 38)) 25 rfl (ra9_rules _ _ (hb.ext (x23.trans x34)))
    rw [World.size_alloc] at this
    exact this
  have H3 := Lib.hid (HR.out _ _ hq3)
  have x35 := x34.alloc (.cells #[.bool false, .bool false, .slice none 0 0, .slice (some ⟨w1.heap.size, 0, none⟩) 1 1, .slice none 0 0, .slice none 0 0, .int .i64 0] 25)
  go_upto_region 4 with (go_at_call 39; refine H3.out.mono ?_; rintro e w5 ⟨rfl, x5⟩)
  have x5a := x35.trans x5
  obtain ⟨b, off, rfl, ⟨_, hne⟩, hc, _⟩ := SlR.int (k := 0) (sO.ext (keep_int _) x5a) rfl
  simp only [Nat.add_zero] at hc
  have v0 := ((((Ext.refl _).alloc _).trans x5).cell K0.out)
  clear r0 r1 r2 r3 r4 r5 r6 hlt
  go_wp2_with (go_at_call 41; refine (HS.out _).mono ?_; rintro e w6 ⟨rfl, x6⟩)
  go_ret
  exact ⟨rfl, (e3.trans x5a).trans x6⟩

end Go.Proofs.Ytfdkbhbnldcbmaa

namespace Go.Proofs.Ytfdkbhbnldcbmaa
open Go.RowKit
set_option linter.unusedVariables false
set_option linter.unusedSimpArgs false

section
variable (A : Option Addr) (n c : Nat) (l : List Rule) (i j : Int) (w : World) (h : Rules w A n c l)

set_option maxRecDepth 100000 in
set_option maxHeartbeats 800000 in
include h in
theorem Masks_bad (hr : (wrongRules l).1 ≠ 0) :
    Calls Try.prog 40 #[.slice A n c, .int .i64 i, .int .i64 j] w fun e w' => e = .returned (.tuple #[.bool false, .agg #[.int .i64 (wrongRules l).1, .int .i64 (wrongRules l).2]]) ∧ Ext w w' := by
  have e1 := (Ext.refl w).alloc (.cells #[.int .i64 0, .int .i64 0] 38)
  have k0 : (w.alloc (.cells #[.int .i64 0, .int .i64 0] 38)).cell? ⟨w.heap.size, 0, none⟩ = some (.int .i64 0) := by simp
  have k1 : (w.alloc (.cells #[.int .i64 0, .int .i64 0] 38)).cell? ⟨w.heap.size, 1, none⟩ = some (.int .i64 0) := by simp
  have wb := Wr.new w #[.int .i64 0, .int .i64 0] 38
  have HC := Lib.hid (Wrongs_any A n c l _ (h.ext e1))
  have hr' : ((wrongRules l).1 != 0) = true := by simpa using hr
  clear hr
  generalize (wrongRules l).1 = p1 at *
  generalize (wrongRules l).2 = p2 at *
  go_enter Try.func40, Try.ntmps40
  go_wp2_with fail
  generalize w.alloc (.cells #[.int .i64 0, .int .i64 0] 38) = w1 at *
  go_wp2_with (go_at_call 31; refine HC.out.mono ?_; rintro e w2 ⟨rfl, hx2⟩; have v0 := hx2.cell k0; have v1 := hx2.cell k1; have vz := (wb.ext hx2).2; have n1 := wb.lt hx2)
  go_region
  go_wp2
  refine bodyPost_ret (v := .tuple #[.bool false, .agg #[.int .i64 p1, .int .i64 p2]]) (by simp [results, Try.results40, go_sem, v0, v1, n1]) rfl ?_
  exact ⟨rfl, ((ext_set (ext_set (e1.trans hx2) (Nat.le_refl _) _ _) (Nat.le_refl _) _ _).alloc _).drew⟩

set_option maxRecDepth 100000 in
set_option maxHeartbeats 800000 in
include h in
theorem Masks_far (hr : (wrongRules l).1 = 0) (hf : i < 0 ∨ j < 0 ∨ (n : Int) ≤ i ∨ (n : Int) ≤ j) :
    Calls Try.prog 40 #[.slice A n c, .int .i64 i, .int .i64 j] w fun e w' => e = .returned (.tuple #[.bool false, .agg #[.int .i64 3, .int .i64 0]]) ∧ Ext w w' := by
  have HR := Lib.hid (wrongRules_zero hr).1
  have e1 := (Ext.refl w).alloc (.cells #[.int .i64 0, .int .i64 0] 38)
  have k0 : (w.alloc (.cells #[.int .i64 0, .int .i64 0] 38)).cell? ⟨w.heap.size, 0, none⟩ = some (.int .i64 0) := by simp
  have k1 : (w.alloc (.cells #[.int .i64 0, .int .i64 0] 38)).cell? ⟨w.heap.size, 1, none⟩ = some (.int .i64 0) := by simp
  have wb := Wr.new w #[.int .i64 0, .int .i64 0] 38
  have HC := Lib.hid (Wrongs_any A n c l _ (h.ext e1))
  have hf' : decide (i < 0) = true ∨ (decide (i < 0) = false ∧ decide (j < 0) = true) ∨ (decide (i < 0) = false ∧ decide (j < 0) = false ∧ decide ((n : Int) ≤ i) = true) ∨ (decide (i < 0) = false ∧ decide (j < 0) = false ∧ decide ((n : Int) ≤ i) = false ∧ decide ((n : Int) ≤ j) = true) := by
    by_cases h1 : i < 0
    · exact .inl (by simpa using h1)
    · by_cases h2 : j < 0
      · exact .inr (.inl ⟨by simpa using h1, by simpa using h2⟩)
      · by_cases h3 : (n : Int) ≤ i
        · exact .inr (.inr (.inl ⟨by simpa using h1, by simpa using h2, by simpa using h3⟩))
        · exact .inr (.inr (.inr ⟨by simpa using h1, by simpa using h2, by simpa using h3, by simp; omega⟩))
  clear hf hr
  rcases hf' with h1 | ⟨h1, h2⟩ | ⟨h1, h2, h3⟩ | ⟨h1, h2, h3, h4⟩
  all_goals
    go_enter Try.func40, Try.ntmps40
    go_wp2_with fail
    generalize w.alloc (.cells #[.int .i64 0, .int .i64 0] 38) = w1 at *
    go_wp2_with (go_at_call 31; refine HC.out.mono ?_; rintro e w2 ⟨rfl, hx2⟩; rw [HR.out]; have v0 := hx2.cell k0; have v1 := hx2.cell k1; have vz := (wb.ext hx2).2; have n1 := wb.lt hx2)
    refine bodyPost_ret (v := .tuple #[.bool false, .agg #[.int .i64 3, .int .i64 0]]) (by simp [results, Try.results40, go_sem, v0, v1, n1]) rfl ?_
    exact ⟨rfl, by repeat (first | exact e1.trans hx2 | refine ext_set ?_ (Nat.le_refl _) _ _ | refine Ext.alloc ?_ _)⟩

set_option maxRecDepth 100000 in
set_option maxHeartbeats 1600000 in
include h in
theorem Masks_in (hr : (wrongRules l).1 = 0) (x y : Nat) (a b : Rule) (hx : l[x]? = some a) (hy : l[y]? = some b) :
    Calls Try.prog 40 #[.slice A n c, .int .i64 x, .int .i64 y] w fun e w' => e = .returned (.tuple #[.bool (masksB a b), .agg #[.int .i64 0, .int .i64 0]]) ∧ Ext w w' := by
  obtain ⟨hr0, _, hok⟩ := wrongRules_zero hr
  have HR := Lib.hid hr0
  have oka := hok a (List.mem_of_getElem? hx)
  have okb := hok b (List.mem_of_getElem? hy)
  have hm := h.max; unfold maxLen at hm
  have hcap := h.cap
  have hxn : x < n := by rw [← h.len]; exact lt_of_get hx
  have hyn : y < n := by rw [← h.len]; exact lt_of_get hy
  have e1 := (Ext.refl w).alloc (.cells #[.int .i64 0, .int .i64 0] 38)
  have k0 : (w.alloc (.cells #[.int .i64 0, .int .i64 0] 38)).cell? ⟨w.heap.size, 0, none⟩ = some (.int .i64 0) := by simp
  have k1 : (w.alloc (.cells #[.int .i64 0, .int .i64 0] 38)).cell? ⟨w.heap.size, 1, none⟩ = some (.int .i64 0) := by simp
  have wb := Wr.new w #[.int .i64 0, .int .i64 0] 38
  have HC := Lib.hid (Wrongs_any A n c l _ (h.ext e1))
  have HM : Hid (∀ W, Ext w W → ∀ b1 o1, A = some ⟨b1, o1, none⟩ → Calls Try.prog 94 #[.pointer (some ⟨b1, o1 + x * 7, none⟩), .pointer (some ⟨b1, o1 + y * 7, none⟩)] W fun e w' => e = .returned (.bool (masksB a b)) ∧ Ext W w') := Lib.hid (by
    intro W e b1 o1 hA
    subst hA
    obtain ⟨b1', o1', s, f, A1, n1, c1, A2, n2, c2, A3, n3, c3, A4, n4, c4, q, e1, _, hv, k0, k1, k2, k3, k4, k5, k6⟩ := (h.ext e).rule hx
    cases e1
    obtain ⟨b2', o2', s', f', A1', n1', c1', A2', n2', c2', A3', n3', c3', A4', n4', c4', q', e2, _, hv', k0', k1', k2', k3', k4', k5', k6'⟩ := (h.ext e).rule hy
    cases e2
    exact masks_any b1 (o1 + x * 7) b1 (o1 + y * 7) a b W ⟨s, f, A1, n1, c1, A2, n2, c2, A3, n3, c3, A4, n4, c4, q, ⟨k0, k1, k2, k3, k4, k5, k6⟩, hv⟩ ⟨s', f', A1', n1', c1', A2', n2', c2', A3', n3', c3', A4', n4', c4', q', ⟨k0', k1', k2', k3', k4', k5', k6'⟩, hv'⟩ oka okb)
  obtain ⟨b1, o1, _, _, _, _, _, _, _, _, _, _, _, _, _, _, _, rfl, _⟩ := h.rule hx
  clear hr hr0 hok hx hy oka okb
  have t1 : decide ((x : Int) < 0) = false := by simp
  have t2 : decide ((y : Int) < 0) = false := by simp
  have t3 : decide ((n : Int) ≤ (x : Int)) = false := by simp; omega
  have t4 : decide ((n : Int) ≤ (y : Int)) = false := by simp; omega
  have t5 : (x : Int) < n := by omega
  have t6 : (y : Int) < n := by omega
  go_enter Try.func40, Try.ntmps40
  go_wp2_with fail
  generalize w.alloc (.cells #[.int .i64 0, .int .i64 0] 38) = w1 at *
  go_wp2_with (go_at_call 31; refine HC.out.mono ?_; rintro e w2 ⟨rfl, hx2⟩; rw [HR.out]; have v0 := hx2.cell k0; have v1 := hx2.cell k1; have vz := (wb.ext hx2).2; have n1 := wb.lt hx2)
  have x2a := hx2.alloc (.cells #[.int .i64 0, .int .i64 0] 38)
  have W2 := wb.ext x2a
  have u0 := x2a.cell k0; have u1 := x2a.cell k1; have uz := W2.2
  clear v0 v1 vz
  generalize w2.alloc (.cells #[.int .i64 0, .int .i64 0] 38) = w3 at *
  go_region_held3 (fun w' => w'.cell? ⟨w.heap.size, 0, none⟩ = some (.int .i64 0) ∧ w'.cell? ⟨w.heap.size, 1, none⟩ = some (.int .i64 0) ∧ ∀ i, w'.frozen? ⟨w.heap.size, i, none⟩ = false)
    (first | exact ⟨p0, p1, pz⟩ | exact ⟨u0, u1, uz⟩ | (go_keep; done) | exact ⟨set_other (set_same p0) (by omega), set_same (set_other p1 (by omega)), fun i => by rw [World.frozen?_setCell, World.frozen?_setCell]; exact pz i⟩)
    ((go_at_call 94; ((with_reducible refine (HM.out _ (e1.trans x2a).drew _ _ rfl).mono ?_); rintro e w4 ⟨rfl, x4⟩; have p0 := x4.cell u0; have p1 := x4.cell u1; have pz := (W2.ext ((Ext.refl w3).drew.trans x4)).2)))
  go_wp2
  refine bodyPost_ret (v := .tuple #[.bool (masksB a b), .agg #[.int .i64 0, .int .i64 0]]) (by simp [results, Try.results40, go_sem, p0, p1]) rfl ?_
  have hle : w.heap.size ≤ w.heap.size := Nat.le_refl _
  exact ⟨rfl, ext_set (ext_set ((e1.trans x2a).drew.trans x4) hle _ _) hle _ _⟩
end

end Go.Proofs.Ytfdkbhbnldcbmaa
