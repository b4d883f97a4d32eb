/- Walks: the rules that others mask. -/
import Derived.Test.YtfdkbhbnldcbmaaW20
import Derived.Test.YtfdkbhbnldcbmaaW13
namespace Go.Proofs.Ytfdkbhbnldcbmaa
open Go.RowKit
set_option linter.unusedVariables false
set_option linter.unusedSimpArgs false

theorem T_rule : ElemT Try.prog 36 25 7 112 := elemT Try.underlying36 (z := .agg #[.bool false, .bool false, .slice none 0 0, .slice none 0 0, .slice none 0 0, .slice none 0 0, .int .i64 0]) (by kernel_rfl) rfl (by omega)
theorem T_int : ElemT Try.prog 64 3 1 8 := elemT Try.underlying64 (z := .int .i64 0) (by kernel_rfl) rfl (by omega)
theorem one_newI (w : World) (x : Int) (t : TypeId) (hx : i64 x) : Ints (w.alloc (.cells #[.int .i64 x] t)) (some ⟨w.heap.size, 0, none⟩) 1 1 [x] := by
  refine SlR.fresh rfl (by unfold maxLen; omega) fun k u huu => ?_
  match k, huu with
  | 0, huu => cases huu; exact ⟨[.int .i64 x], rfl, ⟨rfl, hx⟩, fun j v hv => by match j, hv with | 0, hv => simpa using hv⟩

/-- 'masks(&a, &l[i])', l and i captured -/
theorem maskAt_any (B1 B2 : Nat) (s f : Bool) (A1 : Option Addr) (n1 c1 : Nat) (A2 : Option Addr) (n2 c2 : Nat) (A3 : Option Addr) (n3 c3 : Nat) (A4 : Option Addr) (n4 c4 : Nat) (q : Int) (r : Rule) (w : World) (hv : RuleV w s f A1 n1 c1 A2 n2 c2 A3 n3 c3 A4 n4 c4 q r)
    (A : Option Addr) (n c : Nat) (l : List Rule) (h : Rules w A n c l) (i : Nat) (b : Rule) (hb : l[i]? = some b) (okr : OkRule r) (okb : OkRule b)
    (h0 : w.cell? ⟨B1, 0, none⟩ = some (.slice A n c)) (h1 : w.cell? ⟨B2, 0, none⟩ = some (.int .i64 i)) :
    Calls Try.prog 102 #[.agg #[.bool s, .bool f, .slice A1 n1 c1, .slice A2 n2 c2, .slice A3 n3 c3, .slice A4 n4 c4, .int .i64 q], .pointer (some ⟨B1, 0, none⟩), .pointer (some ⟨B2, 0, none⟩)] w
      fun e w' => e = .returned (.bool (masksB r b)) ∧ Ext w w' := by
  have hm := h.max; unfold maxLen at hm
  have hcap := h.cap
  have hi : i < n := by rw [← h.len]; exact lt_of_get hb
  have e1 := (Ext.refl w).alloc (.cells #[.bool s, .bool f, .slice A1 n1 c1, .slice A2 n2 c2, .slice A3 n3 c3, .slice A4 n4 c4, .int .i64 q] 25)
  have r1 := RuleAt.new (s := s) (f := f) (A1 := A1) (n1 := n1) (c1 := c1) (A2 := A2) (n2 := n2) (c2 := c2) (A3 := A3) (n3 := n3) (c3 := c3) (A4 := A4) (n4 := n4) (c4 := c4) (q := q) w 25
  obtain ⟨b1, o1, s', f', A1', n1', c1', A2', n2', c2', A3', n3', c3', A4', n4', c4', q', rfl, ⟨_, hne⟩, hv', k0, k1, k2, k3, k4, k5, k6⟩ := h.rule hb
  have HC := Lib.hid (masks_any w.heap.size 0 b1 (o1 + i * 7) r b _ ⟨s, f, A1, n1, c1, A2, n2, c2, A3, n3, c3, A4, n4, c4, q, r1, hv.ext (e1.agree top)⟩
    ⟨s', f', A1', n1', c1', A2', n2', c2', A3', n3', c3', A4', n4', c4', q', ⟨e1.cell k0, e1.cell k1, e1.cell k2, e1.cell k3, e1.cell k4, e1.cell k5, e1.cell k6⟩, hv'.ext (e1.agree top)⟩ okr okb)
  have z0 := e1.cell h0; have z1 := e1.cell h1
  have p0 := World.block_lt_of_cell? _ _ h0; have p1 := World.block_lt_of_cell? _ _ h1
  clear hv hv' r1 hb k0 k1 k2 k3 k4 k5 k6
  have hi' : (i : Int) < (n : Int) := by omega
  go_enter Try.func102, Try.ntmps102
  go_wp2_with (go_at_call 94; refine HC.out.mono ?_; rintro e w1 ⟨rfl, hx⟩)
  go_ret
  exact ⟨rfl, e1.trans hx⟩

/-- what Masked hands back -/
def MaskedR (base : Nat) (l : List Rule) (w' : World) (e : Ending) : Prop :=
  ∃ A c, e = .returned (.tuple #[.slice A (maskedTo l l.length).length c, .agg #[.int .i64 0, .int .i64 0]]) ∧ SlR rInt 1 (fun b => base ≤ b) w' A (maskedTo l l.length).length c ((maskedTo l l.length).map fun i : Nat => (i : Int))

set_option maxRecDepth 100000 in
set_option maxHeartbeats 2000000 in
theorem Masked_ok (A : Option Addr) (n c : Nat) (l : List Rule) (w : World) (h : Rules w A n c l) (hr : (wrongRules l).1 = 0) :
    Calls Try.prog 45 #[.slice A n c] w fun e w' => MaskedR w.heap.size l w' e ∧ Ext w w' := by
  obtain ⟨hr0, hl2, hok⟩ := wrongRules_zero hr
  rw [h.len] at hl2
  have hcap := h.cap
  have hlen := Lib.hid h.len
  have HR := Lib.hid hr0
  have OK := Lib.hid hok
  clear hr hr0 hok
  have hmf : ∀ (fn : Fn) (first cap : Array Value) (w : World), (Instr.makeFunc fn first cap).run Try.prog w = .ok (.func fn first cap) w := fun _ _ _ _ => rfl
  have eg : ∀ args w, (callFunc 102 args).run Try.prog w = .ok (.enter 102 args) w := enters Try.func102 (by kernel_rfl) rfl
  have e1 : Ext w ((w.alloc (.cells #[.slice A n c] 36)).alloc (.cells #[.int .i64 0, .int .i64 0] 38)) := ((Ext.refl w).alloc _).alloc _
  have k0 : ((w.alloc (.cells #[.slice A n c] 36)).alloc (.cells #[.int .i64 0, .int .i64 0] 38)).cell? ⟨w.heap.size, 0, none⟩ = some (.slice A n c) := by simp
  have k1 : ((w.alloc (.cells #[.slice A n c] 36)).alloc (.cells #[.int .i64 0, .int .i64 0] 38)).cell? ⟨w.heap.size + 1, 0, none⟩ = some (.int .i64 0) := by simp
  have k2 : ((w.alloc (.cells #[.slice A n c] 36)).alloc (.cells #[.int .i64 0, .int .i64 0] 38)).cell? ⟨w.heap.size + 1, 1, none⟩ = some (.int .i64 0) := by simp
  have wb := Wr.new (w.alloc (.cells #[.slice A n c] 36)) #[.int .i64 0, .int .i64 0] 38
  rw [World.size_alloc] at wb
  have hs0 : w.heap.size + 2 ≤ ((w.alloc (.cells #[.slice A n c] 36)).alloc (.cells #[.int .i64 0, .int .i64 0] 38)).heap.size := by simp
  have HC := Lib.hid (Wrongs_any A n c l _ (h.ext e1))
  go_enter Try.func45, Try.ntmps45
  go_wp2_with fail
  generalize (w.alloc (.cells #[.slice A n c] 36)).alloc (.cells #[.int .i64 0, .int .i64 0] 38) = w1 at *
  go_wp2_with (go_at_call 31; refine HC.out.mono ?_; rintro e w2 ⟨rfl, hx2⟩; rw [HR.out]; have x12 := hx2.alloc (.cells #[.int .i64 0, .int .i64 0] 38); have j0 := hx2.cell k0; have j1 : w.heap.size < w2.heap.size := by have := hx2.size; omega)
  have o0 := OwnR.nil rInt 3 1 w1.heap.size (w2.alloc (.cells #[.int .i64 0, .int .i64 0] 38))
  clear HC j0 j1
  generalize w2.alloc (.cells #[.int .i64 0, .int .i64 0] 38) = w3 at *
  go_loopw [5, 15] (fun v i wr => ∃ k : Nat, k ≤ n ∧ i = .int .i64 k ∧ OwnR rInt 3 1 w1.heap.size wr v ((maskedTo l k).map fun i : Nat => (i : Int)) ∧ Ext w1 wr) (fun _ i _ => n - (intOf i).toNat)
  case atStart => exact ⟨0, by omega, rfl, o0, x12⟩
  case round =>
    obtain ⟨k, hk, rfl, ow, hx⟩ := hrel
    have ex := e1.trans hx
    have y0 := hx.cell k0; have y1 := hx.cell k1; have y2 := hx.cell k2
    have yz := (wb.ext hx).2
    have hw0 : w.heap.size + 2 ≤ wr.heap.size := by have := hx.size; omega
    have hw1 : w.heap.size < wr.heap.size := by omega
    have hw2 : w.heap.size + 1 < wr.heap.size := by omega
    by_cases hlt : k < n
    · obtain ⟨b, hbb⟩ := h.idx hlt
      have okb := OK.out b (List.mem_of_getElem? hbb)
      have ea := (Ext.refl wr).alloc (.cells #[.int .i64 k] 3)
      have exa := ex.trans ea
      have z0 := ea.cell y0
      have z1 := cell_new wr #[.int .i64 k] 3 0 (.int .i64 k) rfl
      have hp : PredRule 102 #[.pointer (some ⟨w.heap.size, 0, none⟩), .pointer (some ⟨wr.heap.size, 0, none⟩)] (fun a => masksB a b) (l.take k) (wr.alloc (.cells #[.int .i64 k] 3)) := by
        intro W s f A1 n1 c1 A2 n2 c2 A3 n3 c3 A4 n4 c4 q r hW hv hr
        exact maskAt_any _ _ s f A1 n1 c1 A2 n2 c2 A3 n3 c3 A4 n4 c4 q r W hv A n c l (h.ext (exa.trans hW)) k b hbb (OK.out r (List.mem_of_mem_take hr)) okb (hW.cell z0) (hW.cell z1)
      have HC := Lib.hid (ContainsRule_any A k c (l.take k) _ _ _ _ eg hp ((h.ext exa).take (by omega)))
      have HM := Lib.hid (isMasked_at hbb)
      have Z1 := Lib.hid z1
      have hs1 := fun W => run_cut_h T_rule A n c (k : Int) k rfl (by omega) W
      clear hp hbb okb z0 z1
      cases hm : isMasked l k
      · have HMk := Lib.hid (maskedTo_no hm)
        have HM2 := Lib.hid hm; clear hm
        go_wp2_with (go_at_call 95; refine HC.out.mono ?_; rintro e w4 ⟨rfl, hx4⟩; rw [← HM.out, HM2.out])
        go_roundw
        case rel => exact ⟨k + 1, by omega, by go_num, by rw [HMk.out]; exact ow.ext (keep_int bot) (ea.trans hx4), hx.trans (ea.trans hx4)⟩
        case measure => simp [intOf]; omega
      · have HMk := Lib.hid (maskedTo_yes hm)
        have HM2 := Lib.hid hm; clear hm
        have hml := maskedTo_len l k
        go_wp2_with (first
          | (go_at_call 95; refine HC.out.mono ?_; rintro e w4 ⟨rfl, hx4⟩; rw [← HM.out, HM2.out]; have v1 := hx4.cell Z1.out; have f4 := ea.trans hx4; have ow4 := ow.ext (keep_int bot) f4; have f5 := f4.alloc (.cells #[.int .i64 k] 3); have s5 := one_newI w4 k 3 (by unfold i64; omega); have ow5 := ow4.ext (keep_int bot) ((Ext.refl w4).alloc (.cells #[.int .i64 k] 3)); have g5 := hx.trans f5)
          | (at_builtin
             refine wpList_appS T_int (by omega) rfl (.tmp 23) (.tmp 25) rfl rfl ow5 rfl s5 (fun _ _ h => h) one_int (keep_int bot) (bot_no _) ?_ g5.size ?_
             · rw [List.length_map]; omega
             intro v6 w6 o6 g6 hat6
             have g7 := g5.app g6 ow5))
        go_roundw
        case rel => exact ⟨k + 1, by omega, by go_num, by rw [HMk.out, List.map_append]; exact o6, g7⟩
        case measure => simp [intOf]; omega
    · have e : k = n := by omega
      subst e
      obtain ⟨AO, cO, rfl, sO⟩ := ow.sl
      go_wp2
      simp only [List.length_map] at sO
      refine bodyPost_ret (v := .tuple #[.slice AO (maskedTo l k).length cO, .agg #[.int .i64 0, .int .i64 0]]) (by simp [results, Try.results45, go_sem, y1, y2]) rfl ?_
      refine ⟨⟨AO, cO, by rw [hlen.out], ?_⟩, ext_set (ext_set ex (by omega) _ _) (by omega) _ _⟩
      rw [hlen.out]
      exact ((sO.far (keep_int _) (fun b hb => by omega)).far (keep_int _) (fun b hb => by omega)).mono (fun _ _ h => h) (fun b hb => by omega)

end Go.Proofs.Ytfdkbhbnldcbmaa
