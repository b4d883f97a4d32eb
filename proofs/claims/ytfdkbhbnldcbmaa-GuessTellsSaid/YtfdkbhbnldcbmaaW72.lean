/- Walks: whether a rule can match in texts of a small set, by both; all runes of such a set. -/
import Derived.Test.YtfdkbhbnldcbmaaW71
import Derived.Test.YtfdkbhbnldcbmaaW3
namespace Go.Proofs.Ytfdkbhbnldcbmaa
open Go.RowKit
set_option linter.unusedVariables false
set_option linter.unusedSimpArgs false

set_option maxRecDepth 100000 in
set_option maxHeartbeats 1600000 in
theorem idle_any (b off : Nat) (s f : Bool) (A1 : Option Addr) (n1 c1 : Nat) (A2 : Option Addr) (n2 c2 : Nat) (A3 : Option Addr) (n3 c3 : Nat) (A4 : Option Addr) (n4 c4 : Nat) (q : Int) (r : Rule) (B : Option Addr) (m d : Nat) (ds : List Sp) (w : World)
    (hv : RuleV w s f A1 n1 c1 A2 n2 c2 A3 n3 c3 A4 n4 c4 q r) (hr : RuleAt w b off s f A1 n1 c1 A2 n2 c2 A3 n3 c3 A4 n4 c4 q) (hd : Spans w B m d ds) (gd : wrongSet ds = 0) (ok : OkRule r) :
    Calls Try.prog 145 #[.pointer (some ⟨b, off, none⟩), .slice B m d] w fun e w' => e = .returned (.bool (!(canR r (unitsL ds)))) ∧ Ext w w' := by
  have h3 := hr.h3
  have hS := hv.source
  have hm := hS.max; unfold maxLen at hm
  have hcap := hS.cap
  have hlen := Lib.hid hS.len
  have GS := Lib.hid ok.s
  have GD := Lib.hid gd
  have HC : Hid (canR r (unitsL ds) = r.source.all fun t => (unitsL ds).any fun u => has t u) := Lib.hid rfl
  have HMN : Hid (∀ t ∈ r.source, (meetL t ds).isEmpty = !((unitsL ds).any fun u => has t u)) := Lib.hid (fun t ht => meet_none (good_of (GS.out t ht)) (good_of GD.out))
  generalize r.source = ss at *
  generalize canR r (unitsL ds) = cv at *
  clear hv hr ok gd
  go_enter Try.func145, Try.ntmps145
  go_wp2
  go_loopw [14] (fun i wr => ∃ k : Nat, k ≤ n2 ∧ i = .int .i64 k ∧ Hid (cv = (ss.drop k).all fun t => (unitsL ds).any fun u => has t u) ∧ Ext w wr) (fun i _ => n2 - (intOf i).toNat)
  case atStart => exact ⟨0, by omega, rfl, HC, Ext.refl _⟩
  case round =>
    obtain ⟨k, hk, rfl, HK, hx⟩ := hrel
    by_cases hlt : k < n2
    · obtain ⟨t, htt⟩ := hS.idx hlt
      obtain ⟨b2, off2, A', n', c', rfl, _, hcell, hs⟩ := (hS.ext hx).sl htt
      have hmem := List.mem_of_getElem? htt
      have HMt := Lib.hid (HMN.out t hmem)
      have HM := Lib.hid (MeetP_any A' n' c' t B m d ds wr hs (hd.ext hx) (GS.out t hmem) GD.out)
      have HD := Lib.hid (drop_cons htt)
      clear htt hmem
      cases hcan : (unitsL ds).any fun u => has t u
      · have HV : Hid (cv = false) := Lib.hid (by rw [HK.out, HD.out, List.all_cons, hcan]; rfl)
        have HE : Hid ((meetL t ds).isEmpty = true) := Lib.hid (by rw [HMt.out, hcan]; rfl)
        clear hcan
        have hnil : (meetL t ds).length = 0 := by
          have := HE.out
          cases h : meetL t ds with
          | nil => rfl
          | cons x r => rw [h] at this; cases this
        have HM2 := Lib.hid (HM.out.mono (fun e w' h => (⟨h.1.small (by omega), h.2⟩ : (∃ A c, e = .returned (.tuple #[.slice A (meetL t ds).length c, .int .i64 0])) ∧ Ext wr w')))
        rw [hnil] at HM2
        clear hnil
        go_wp2_with (go_at_call 68; refine HM2.out.mono ?_; rintro e w1 ⟨⟨A9, c9, rfl⟩, x1⟩)
        go_ret
        rw [HV.out]
        exact ⟨rfl, hx.trans x1⟩
      · have HV : Hid (cv = (ss.drop (k + 1)).all fun t => (unitsL ds).any fun u => has t u) := Lib.hid (by rw [HK.out, HD.out, List.all_cons, hcan]; rfl)
        have hpos : 0 < (meetL t ds).length := by
          have := HMt.out
          rw [hcan] at this
          cases h : meetL t ds with
          | nil => rw [h] at this; cases this
          | cons x r => simp
        clear hcan
        by_cases hbig : 200 < (meetL t ds).length
        · have HM2 := Lib.hid (HM.out.mono (fun e w' h => (⟨h.1.big hbig, h.2⟩ : (∃ A c, e = .returned (.tuple #[.slice A 0 c, .int .i64 5])) ∧ Ext wr w')))
          clear hbig hpos
          go_wp2_with (go_at_call 68; refine HM2.out.mono ?_; rintro e w1 ⟨⟨A9, c9, rfl⟩, x1⟩)
          go_roundw
          case rel => exact ⟨k + 1, by omega, by go_num, HV, hx.trans x1⟩
          case measure => simp [intOf]; omega
        · have HM2 := Lib.hid (HM.out.mono (fun e w' h => (⟨h.1.small hbig, h.2⟩ : (∃ A c, e = .returned (.tuple #[.slice A (meetL t ds).length c, .int .i64 0])) ∧ Ext wr w')))
          obtain ⟨N, hN⟩ : ∃ N, (meetL t ds).length = N + 1 := ⟨(meetL t ds).length - 1, by omega⟩
          rw [hN] at HM2
          clear hbig hpos hN
          go_wp2_with (go_at_call 68; refine HM2.out.mono ?_; rintro e w1 ⟨⟨A9, c9, rfl⟩, x1⟩)
          go_roundw
          case rel => exact ⟨k + 1, by omega, by go_num, HV, hx.trans x1⟩
          case measure => simp [intOf]; omega
    · go_wp2
      go_ret
      rw [HK.out, drop_end hlen.out hlt]
      exact ⟨rfl, hx⟩

set_option maxRecDepth 100000 in
set_option maxHeartbeats 1600000 in
theorem refCan_any (s f : Bool) (A1 : Option Addr) (n1 c1 : Nat) (A2 : Option Addr) (n2 c2 : Nat) (A3 : Option Addr) (n3 c3 : Nat) (A4 : Option Addr) (n4 c4 : Nat) (q : Int) (r : Rule) (B : Option Addr) (m d : Nat) (us : List Int) (w : World)
    (hv : RuleV w s f A1 n1 c1 A2 n2 c2 A3 n3 c3 A4 n4 c4 q r) (hU : Runes w B m d us) :
    Calls Try.prog 111 #[.agg #[.bool s, .bool f, .slice A1 n1 c1, .slice A2 n2 c2, .slice A3 n3 c3, .slice A4 n4 c4, .int .i64 q], .slice B m d] w fun e w' => e = .returned (.bool (canR r us)) ∧ Ext w w' := by
  have e1 := (Ext.refl w).alloc (.cells #[.bool s, .bool f, .slice A1 n1 c1, .slice A2 n2 c2, .slice A3 n3 c3, .slice A4 n4 c4, .int .i64 q] 25)
  have hS := hv.source.ext e1
  have hm := hS.max; unfold maxLen at hm
  have hcap := hS.cap
  have hmU := hU.max; unfold maxLen at hmU
  have hcU := hU.cap
  have hlen := Lib.hid hS.len
  have hlU := Lib.hid hU.len
  have HC : Hid (canR r us = r.source.all fun t => us.any fun u => has t u) := Lib.hid rfl
  have hUe := hU.ext e1
  generalize r.source = ss at *
  generalize canR r us = cv at *
  clear hv hU
  go_enter Try.func111, Try.ntmps111
  go_wp2
  generalize hW1 : w.alloc (.cells #[.bool s, .bool f, .slice A1 n1 c1, .slice A2 n2 c2, .slice A3 n3 c3, .slice A4 n4 c4, .int .i64 q] 25) = w1 at *
  clear hW1
  go_loopw [13] (fun i wr => ∃ k : Nat, k ≤ n2 ∧ i = .int .i64 k ∧ Hid (cv = (ss.drop k).all fun t => us.any fun u => has t u) ∧ Ext w1 wr) (fun i _ => n2 - (intOf i).toNat)
  case atStart => exact ⟨0, by omega, rfl, HC, Ext.refl _⟩
  case round =>
    obtain ⟨k, hk, rfl, HK, hx⟩ := hrel
    generalize wr = wo at *
    by_cases hlt : k < n2
    · obtain ⟨t, htt⟩ := hS.idx hlt
      obtain ⟨b2, off2, A', n', c', rfl, _, hcell, hs⟩ := (hS.ext hx).sl htt
      have HD := Lib.hid (drop_cons htt)
      clear htt
      have hUo := hUe.ext hx
      go_wp2
      go_loopw [7, 19] (fun b i wr => ∃ j : Nat, j ≤ m ∧ i = .int .i64 j ∧ b = .bool ((us.take j).any (has t)) ∧ Ext wo wr) (fun _ i _ => m - (intOf i).toNat)
      case atStart => exact ⟨0, by omega, rfl, rfl, Ext.refl _⟩
      case round =>
        obtain ⟨j, hj, rfl, rfl, hy⟩ := hrel
        by_cases hlj : j < m
        · obtain ⟨u, huu⟩ := hUo.idx hlj
          obtain ⟨b3, off3, rfl, _, hcu, _, _⟩ := (hUo.ext hy).rune huu
          have HS : Hid ((us.take (j + 1)).any (has t) = ((us.take j).any (has t) || has t u)) := Lib.hid (by rw [take_snoc huu, List.any_append]; simp)
          have HH := Lib.hid (refHas_any A' n' c' t u wr (SlR.ext (keep_span _) hs hy))
          clear huu
          generalize (us.take j).any (has t) = acc at *
          cases acc
          · go_wp2_with (go_at_call 62; refine HH.out.mono ?_; rintro x w5 ⟨rfl, x5⟩)
            go_roundw
            case rel => exact ⟨j + 1, by omega, by go_num, by rw [HS.out]; rfl, hy.trans x5⟩
            case measure => simp [intOf]; omega
          · go_wp2
            go_roundw
            case rel => exact ⟨j + 1, by omega, by go_num, by rw [HS.out]; rfl, hy⟩
            case measure => simp [intOf]; omega
        · have HE : Hid ((us.take j).any (has t) = us.any (has t)) := Lib.hid (by rw [take_all hlU.out (by omega)])
          rw [HE.out]
          have HK2 : Hid (cv = (us.any (has t) && (ss.drop (k + 1)).all fun t => us.any fun u => has t u)) := Lib.hid (by rw [HK.out, HD.out, List.all_cons])
          generalize us.any (has t) = acc at *
          cases acc
          · go_wp2
            go_ret
            rw [HK2.out]
            exact ⟨rfl, e1.trans (hx.trans hy)⟩
          · go_wp2
            go_roundw
            case rel => exact ⟨k + 1, by omega, by go_num, Lib.hid (by rw [HK2.out]; rfl), hx.trans hy⟩
            case measure => simp [intOf]; omega
    · go_wp2
      go_ret
      rw [HK.out, drop_end hlen.out hlt]
      exact ⟨rfl, e1.trans hx⟩

theorem oneP_new (w : World) (x : Int) (t : TypeId) (hx : -2147483648 ≤ x ∧ x ≤ 2147483647) : Runes (w.alloc (.cells #[.int .i32 x] t)) (some ⟨w.heap.size, 0, none⟩) 1 1 [x] := by
  refine SlR.fresh rfl (by unfold maxLen; omega) fun k u huu => ?_
  match k, huu with
  | 0, huu => cases huu; exact ⟨[.int .i32 x], rfl, ⟨rfl, hx⟩, fun j v hv => by match j, hv with | 0, hv => simpa using hv⟩
theorem unitsSp_get {x : Sp} {j : Nat} (h : (x.lo : Int) + j ≤ x.hi) : (unitsSp x)[j]? = some (x.lo + j) := by
  unfold unitsSp
  have : j < (x.hi - x.lo + 1).toNat := by omega
  simp [this]
theorem unitsL_len_take {d : List Sp} (h : ∀ x ∈ d, okSp x) {k : Nat} {x : Sp} (hx : d[k]? = some x) : (unitsL (d.take k)).length + (unitsSp x).length ≤ (unitsL d).length := by
  have e : unitsL d = unitsL (d.take k) ++ (unitsSp x ++ unitsL (d.drop (k + 1))) := by
    rw [← unitsL_cons, ← drop_cons hx]
    unfold unitsL
    rw [← List.flatMap_append, List.take_append_drop]
  rw [e]; simp

set_option maxRecDepth 100000 in
set_option maxHeartbeats 1600000 in
theorem refAll_any (A : Option Addr) (n c : Nat) (d : List Sp) (w : World) (h : Spans w A n c d) (hok : ∀ x ∈ d, okSp x) (hU : (unitsL d).length ≤ 40) :
    Calls Try.prog 105 #[.slice A n c] w fun e w' => ∃ v, e = .returned v ∧ OwnR rRune 21 1 w.heap.size w' v (unitsL d) ∧ Ext w w' := by
  have hm := h.max; unfold maxLen at hm
  have hcap := h.cap
  have hlen := Lib.hid h.len
  have OK := Lib.hid hok; clear hok
  go_enter Try.func105, Try.ntmps105
  go_wp2
  go_loopw [3, 9] (fun v i wr => ∃ k : Nat, k ≤ n ∧ i = .int .i64 k ∧ OwnR rRune 21 1 w.heap.size wr v (unitsL (d.take k)) ∧ Ext w wr) (fun _ i _ => n - (intOf i).toNat)
  case atStart => exact ⟨0, by omega, rfl, OwnR.nil _ _ _ _ _, Ext.refl _⟩
  case round =>
    obtain ⟨k, hk, rfl, HO, hx⟩ := hrel
    generalize wr = wo at *
    obtain ⟨AO, cO, rfl, _⟩ := HO.form
    by_cases hlt : k < n
    · obtain ⟨x, hxx⟩ := h.idx hlt
      obtain ⟨b, off, rfl, ⟨_, hne⟩, k1, k2, _, _⟩ := (h.ext hx).span hxx
      have hr := OK.out x (List.mem_of_getElem? hxx)
      have hll := unitsL_len_take OK.out hxx
      have hsl := unitsSp_len hr
      have HS : Hid (unitsL (d.take (k + 1)) = unitsL (d.take k) ++ unitsSp x) := Lib.hid (by rw [take_snoc hxx, unitsL_snoc])
      have HXG : Hid (∀ j : Nat, (x.lo : Int) + j ≤ x.hi → (unitsSp x)[j]? = some (x.lo + j)) := Lib.hid (fun j hj => unitsSp_get hj)
      obtain ⟨q1, q2, q3⟩ := hr
      clear hxx
      generalize unitsL (d.take k) = pre at *
      generalize unitsSp x = ux at *
      obtain ⟨lo, hi⟩ := x
      simp only at k1 k2 q1 q2 q3 HXG hsl
      have hxa := hx.alloc (.cells #[.int .i32 lo, .int .i32 hi] 80)
      have HO0 := Lib.hid HO
      have HOa := HO.ext (keep_rune bot) ((Ext.refl wo).alloc (.cells #[.int .i32 lo, .int .i32 hi] 80))
      have z0 := cell_new wo #[.int .i32 lo, .int .i32 hi] 80 0 (.int .i32 lo) rfl
      have z1 := cell_new wo #[.int .i32 lo, .int .i32 hi] 80 1 (.int .i32 hi) rfl
      clear HO
      go_wp2
      have hxb : wo.heap.size < (wo.alloc (.cells #[.int .i32 lo, .int .i32 hi] 80)).heap.size := by simp
      have hob : (Value.slice AO pre.length cO).ownBlock ≠ some wo.heap.size := fun e => by have := (HOa.lt _ e).2; have h3 := (HO0.out.lt _ e).2; omega
      generalize hW : wo.alloc (.cells #[.int .i32 lo, .int .i32 hi] 80) = wa at *
      generalize wo.heap.size = xb at *
      clear hW z0 HO0 k1 k2 hne
      go_loopw [3, 6] (fun v r wr => ∃ j : Nat, (lo : Int) + j ≤ hi + 1 ∧ r = .int .i32 (lo + j) ∧ OwnR rRune 21 1 w.heap.size wr v (pre ++ ux.take j) ∧ Ext w wr ∧ wr.cell? ⟨xb, 1, none⟩ = some (.int .i32 hi) ∧ v.ownBlock ≠ some xb ∧ xb < wr.heap.size) (fun _ r _ => (hi + 1 - intOf r).toNat)
      case atStart => exact ⟨0, by omega, by simp, by simpa using HOa, hxa, z1, hob, hxb⟩
      case round =>
        obtain ⟨j, hj, rfl, HJ, hy, y1, hoj, hxj⟩ := hrel
        obtain ⟨AJ, cJ, rfl, _⟩ := HJ.form
        have hxjn := Nat.ne_of_lt hxj
        by_cases hlj : lo + (j : Int) ≤ hi
        · have hjt : decide (lo + (j : Int) ≤ hi) = true := by simpa using hlj
          have HT : Hid (ux.take (j + 1) = ux.take j ++ [lo + (j : Int)]) := Lib.hid (take_snoc (HXG.out j hlj))
          have ya := hy.alloc (.cells #[.int .i32 (lo + (j : Int))] 21)
          have HJa := HJ.ext (keep_rune bot) ((Ext.refl wr).alloc (.cells #[.int .i32 (lo + (j : Int))] 21))
          have on := oneP_new wr (lo + (j : Int)) 21 (by omega)
          have ca := ((Ext.refl wr).alloc (.cells #[.int .i32 (lo + (j : Int))] 21)).cell y1
          have hbs : w.heap.size ≤ (wr.alloc (.cells #[.int .i32 (lo + (j : Int))] 21)).heap.size := ya.size
          have hxa2 : xb < (wr.alloc (.cells #[.int .i32 (lo + (j : Int))] 21)).heap.size := by simp; omega
          have hLn : (pre ++ ux.take j).length + 1 ≤ 60000 := by simp; omega
          have hwr : IntKind.i32.wrap (lo + (j : Int) + 1) = lo + (j : Int) + 1 := IntWalk.i32_in _ (by omega)
          go_wp2_with (first
            | (at_builtin
               refine wpList_appS T_rune (by omega) rfl (.tmp 21) (.tmp 23) rfl rfl HJa rfl on (fun _ _ h => h) one_rune (keep_rune bot) (bot_no _) hLn hbs ?_
               intro v7 w7 o7 g7 hat7))
          have c7 := far_cell g7 ca hoj
          have n7 := own_ne hat7 hoj (Nat.ne_of_lt hxa2)
          have y7 := ya.app g7 HJa
          have s7 : xb < w7.heap.size := Nat.lt_of_lt_of_le hxa2 g7.size
          rw [List.append_assoc, ← HT.out] at o7
          go_roundw
          case rel => exact ⟨j + 1, by omega, by simp; omega, o7, y7, c7, n7, s7⟩
          case measure => simp [intOf]; omega
        · have hjt : decide (lo + (j : Int) ≤ hi) = false := by simpa using hlj
          have HE : Hid (pre ++ ux.take j = unitsL (d.take (k + 1))) := Lib.hid (by rw [HS.out, List.take_of_length_le (by omega)])
          go_wp2
          go_roundw
          case rel => exact ⟨k + 1, by omega, by go_num, by rw [← HE.out]; exact HJ, hy⟩
          case measure => simp [intOf]; omega
    · have HE : Hid (unitsL (d.take k) = unitsL d) := Lib.hid (by rw [take_all hlen.out (by omega)])
      go_wp2
      go_ret
      exact ⟨_, rfl, by rw [← HE.out]; exact HO, hx⟩

end Go.Proofs.Ytfdkbhbnldcbmaa
