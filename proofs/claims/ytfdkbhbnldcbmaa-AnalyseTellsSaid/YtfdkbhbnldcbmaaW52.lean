/- Walks: the document's Sure, Reach, Firsts, and its look at two lists of numbers; Reach of any rules. -/
import Derived.Test.YtfdkbhbnldcbmaaW51
import Derived.Test.YtfdkbhbnldcbmaaW43
import Derived.Test.YtfdkbhbnldcbmaaW12
namespace Go.Proofs.Ytfdkbhbnldcbmaa
open Go.RowKit
set_option linter.unusedVariables false
set_option linter.unusedSimpArgs false

set_option maxHeartbeats 400000 in
theorem SameI_any (A B : Option Addr) (n c n' d : Nat) (l m : List Int) (w : World) (hA : Ints w A n c l) (hB : Ints w B n' d m) :
    Calls Try.prog 81 #[.slice A n c, .slice B n' d] w fun e w' => e = .returned (.bool (decide (l = m))) ∧ Ext w w' := by
  have h1 := Lib.hid hA.len; have h2 := Lib.hid hB.len
  have hmA := hA.max; have hcA := hA.cap; unfold maxLen at hmA
  by_cases hlm : n = n'
  · subst hlm
    have hn : ((n : Int) != (n : Int)) = false := by simp
    go_enter Try.func81, Try.ntmps81
    go_wp2
    go_loopw [13] (fun i wr => ∃ k : Nat, k ≤ n ∧ i = .int .i64 k ∧ l.take k = m.take k ∧ Ext w wr) (fun i _ => n - (intOf i).toNat)
    case atStart => exact ⟨0, by omega, rfl, rfl, Ext.refl _⟩
    case round =>
      obtain ⟨k, hk, rfl, hkk, hx⟩ := hrel
      have HK := Lib.hid hkk; clear hkk
      by_cases hlt : k < n
      · obtain ⟨x, hxx⟩ := hA.idx hlt
        obtain ⟨y, hyy⟩ := hB.idx hlt
        obtain ⟨b, off, rfl, _, hc, _⟩ := (SlR.ext (keep_int _) hA hx).int hxx
        obtain ⟨b2, off2, rfl, _, hc2, _⟩ := (SlR.ext (keep_int _) hB hx).int hyy
        by_cases heq : x = y
        · subst heq
          have HX := Lib.hid hxx; have HY := Lib.hid hyy; clear hxx hyy
          go_wp2
          go_quiet (fail)
          go_wp2
          go_roundw
          case rel => exact ⟨k+1, by omega, by go_num, same_step HK.out HX.out HY.out, hx.drewN _⟩
          case measure => simp [intOf]; omega
        · have hne : (x != y) = true := by simpa using heq
          have hd : decide (l = m) = false := by simp; rintro rfl; rw [hxx] at hyy; cases hyy; exact heq rfl
          have HD := Lib.hid hd
          clear hd heq hxx hyy
          go_wp2
          go_quiet (fail)
          go_wp2
          go_ret
          rw [HD.out]
          exact ⟨rfl, hx.drewN _⟩
      · have hd : decide (l = m) = true := by
          have h3 := HK.out
          rw [take_all h1.out (by omega), take_all h2.out (by omega)] at h3
          simpa using h3
        have HD := Lib.hid hd
        clear hd
        go_wp2
        go_ret
        rw [HD.out]
        exact ⟨rfl, hx⟩
  · have hn : ((n : Int) != (n' : Int)) = true := by simp; omega
    have hd : decide (l = m) = false := by simp; rintro rfl; exact hlm (h1.out.symm.trans h2.out)
    have H := Lib.hid hd; clear hd
    go_enter Try.func81, Try.ntmps81
    go_wp2
    go_ret
    rw [H.out]
    exact ⟨rfl, Ext.refl _⟩


theorem sureR_cons (r : Rule) (l : List Rule) : sureR (r :: l) = (decide (r.cursor = r.target.length) && sureR l) := by unfold sureR; rw [List.all_cons]

set_option maxRecDepth 100000 in
set_option maxHeartbeats 800000 in
theorem refSure_any (A : Option Addr) (n c : Nat) (l : List Rule) (w : World) (h : Rules w A n c l) :
    Calls Try.prog 75 #[.slice A n c] w fun e w' => e = .returned (.bool (sureR l)) ∧ Ext w w' := by
  have hm := h.max; unfold maxLen at hm
  have hcap := h.cap
  have hlen := Lib.hid h.len
  go_enter Try.func75, Try.ntmps75
  go_wp2
  go_loopw [7] (fun i wr => ∃ k : Nat, k ≤ n ∧ i = .int .i64 k ∧ Hid (sureR l = sureR (l.drop k)) ∧ Ext w wr) (fun i _ => n - (intOf i).toNat)
  case atStart => exact ⟨0, by omega, rfl, Lib.hid rfl, Ext.refl _⟩
  case round =>
    obtain ⟨k, hk, rfl, HK, hx⟩ := hrel
    by_cases hlt : k < n
    · obtain ⟨r, hrr⟩ := h.idx hlt
      obtain ⟨b, off, s, f, A1, n1, c1, A2, n2, c2, A3, n3, c3, A4, n4, c4, q, rfl, ⟨_, hne⟩, hv, k0, k1, k2, k3, k4, k5, k6⟩ := (h.ext hx).rule hrr
      have HD := Lib.hid (drop_cons hrr)
      have h1 : r.cursor = q := hv.cursor
      have h2 : r.target.length = n4 := hv.target.len
      have HR : Hid (sureR l = (decide (q = (n4 : Int)) && sureR (l.drop (k + 1)))) := Lib.hid (by rw [HK.out, HD.out, sureR_cons, h1, h2])
      clear hrr hv h1 h2
      by_cases hq : q = (n4 : Int)
      · have t : (q != (n4 : Int)) = false := by simpa using hq
        have HK2 : Hid (sureR l = sureR (l.drop (k + 1))) := Lib.hid (by rw [HR.out, decide_eq_true hq, Bool.true_and])
        clear hq
        go_wp2
        go_roundw
        case rel => exact ⟨k + 1, by omega, by go_num, HK2, hx.alloc _⟩
        case measure => simp [intOf]; omega
      · have t : (q != (n4 : Int)) = true := by simpa using hq
        have HV : Hid (sureR l = false) := Lib.hid (by rw [HR.out, decide_eq_false hq, Bool.false_and])
        clear hq
        go_wp2
        go_ret
        rw [HV.out]
        exact ⟨rfl, hx.alloc _⟩
    · go_wp2
      go_ret
      rw [HK.out, drop_end hlen.out hlt]
      exact ⟨rfl, hx⟩

/-- how far any rules look, as an int has it -/
def reachW : List Rule → Int → Int → Int × Int
  | [], a, b => (a, b)
  | r :: l, a, b => reachW l (max a r.before.length) (max b (IntKind.i64.wrap ((r.source.length : Int) + r.after.length)))
theorem reachW_snoc : ∀ (l : List Rule) (a b : Int) (r : Rule), reachW (l ++ [r]) a b = (max (reachW l a b).1 r.before.length, max (reachW l a b).2 (IntKind.i64.wrap ((r.source.length : Int) + r.after.length)))
  | [], a, b, r => rfl
  | r' :: l, a, b, r => by rw [List.cons_append]; unfold reachW; exact reachW_snoc l _ _ r

set_option maxRecDepth 100000 in
set_option maxHeartbeats 1600000 in
theorem ReachW_any (A : Option Addr) (n c : Nat) (l : List Rule) (w : World) (h : Rules w A n c l) :
    Calls Try.prog 39 #[.slice A n c] w fun e w' => e = .returned (.tuple #[.int .i64 (reachW l 0 0).1, .int .i64 (reachW l 0 0).2]) ∧ Ext w w' := by
  have hm := h.max; unfold maxLen at hm
  have hcap := h.cap
  have hlen := Lib.hid h.len
  go_enter Try.func39, Try.ntmps39
  go_wp2
  go_loopw [2, 3, 8] (fun u v i wr => ∃ k : Nat, k ≤ n ∧ i = .int .i64 k ∧ u = .int .i64 (reachW (l.take k) 0 0).1 ∧ v = .int .i64 (reachW (l.take k) 0 0).2 ∧ Ext w wr) (fun _ _ i _ => n - (intOf i).toNat)
  case atStart => exact ⟨0, by omega, rfl, rfl, rfl, Ext.refl _⟩
  case round =>
    obtain ⟨k, hk, rfl, rfl, rfl, hx⟩ := hrel
    by_cases hlt : k < n
    · obtain ⟨r, hrr⟩ := h.idx hlt
      obtain ⟨b, off, s, f, A1, n1, c1, A2, n2, c2, A3, n3, c3, A4, n4, c4, q, rfl, ⟨_, hne⟩, hv, k0, k1, k2, k3, k4, k5, k6⟩ := (h.ext hx).rule hrr
      obtain ⟨z, hz⟩ : ∃ z : Int, IntKind.i64.wrap ((n2 : Int) + n3) = z := ⟨_, rfl⟩
      have HS : Hid (reachW (l.take (k + 1)) 0 0 = (max (reachW (l.take k) 0 0).1 n1, max (reachW (l.take k) 0 0).2 z)) := Lib.hid (by
        rw [take_snoc hrr, reachW_snoc, hv.before.len, hv.source.len, hv.after.len, hz])
      clear hrr hv
      generalize (reachW (l.take k) 0 0).1 = x at *
      generalize (reachW (l.take k) 0 0).2 = y at *
      go_wp2
      go_quiet (fail)
      clear hz
      go_wp2
      go_roundw
      case rel => exact ⟨k + 1, by omega, by go_num, by rw [HS.out], by rw [HS.out], (hx.alloc _).drewN _⟩
      case measure => simp [intOf]; omega
    · go_wp2
      go_ret2
      rw [take_all hlen.out (by omega)]
      exact ⟨rfl, hx⟩

set_option maxRecDepth 100000 in
set_option maxHeartbeats 1600000 in
theorem refReach_any (A : Option Addr) (n c : Nat) (l : List Rule) (w : World) (h : Rules w A n c l) :
    Calls Try.prog 74 #[.slice A n c] w fun e w' => e = .returned (.tuple #[.int .i64 (reachW l 0 0).1, .int .i64 (reachW l 0 0).2]) ∧ Ext w w' := by
  have hm := h.max; unfold maxLen at hm
  have hcap := h.cap
  have hlen := Lib.hid h.len
  go_enter Try.func74, Try.ntmps74
  go_wp2
  go_loopw [4, 5, 11] (fun u v i wr => ∃ k : Nat, k ≤ n ∧ i = .int .i64 k ∧ u = .int .i64 (reachW (l.take k) 0 0).1 ∧ v = .int .i64 (reachW (l.take k) 0 0).2 ∧ Ext w wr) (fun _ _ i _ => n - (intOf i).toNat)
  case atStart => exact ⟨0, by omega, rfl, rfl, rfl, Ext.refl _⟩
  case round =>
    obtain ⟨k, hk, rfl, rfl, rfl, hx⟩ := hrel
    by_cases hlt : k < n
    · obtain ⟨r, hrr⟩ := h.idx hlt
      obtain ⟨b, off, s, f, A1, n1, c1, A2, n2, c2, A3, n3, c3, A4, n4, c4, q, rfl, ⟨_, hne⟩, hv, k0, k1, k2, k3, k4, k5, k6⟩ := (h.ext hx).rule hrr
      obtain ⟨z, hz⟩ : ∃ z : Int, IntKind.i64.wrap ((n2 : Int) + n3) = z := ⟨_, rfl⟩
      have HS : Hid (reachW (l.take (k + 1)) 0 0 = (max (reachW (l.take k) 0 0).1 n1, max (reachW (l.take k) 0 0).2 z)) := Lib.hid (by
        rw [take_snoc hrr, reachW_snoc, hv.before.len, hv.source.len, hv.after.len, hz])
      clear hrr hv
      generalize (reachW (l.take k) 0 0).1 = x at *
      generalize (reachW (l.take k) 0 0).2 = y at *
      have ta : ∃ x' : Int, max x (n1 : Int) = x' ∧ ((x' = (n1 : Int) ∧ decide (x < (n1 : Int)) = true) ∨ (x' = x ∧ decide (x < (n1 : Int)) = false)) := by
        by_cases a1 : x < (n1 : Int)
        · exact ⟨n1, by omega, .inl ⟨rfl, by simpa using a1⟩⟩
        · exact ⟨x, by omega, .inr ⟨rfl, by simpa using a1⟩⟩
      have tb : ∃ y' : Int, max y z = y' ∧ ((y' = z ∧ decide (y < z) = true) ∨ (y' = y ∧ decide (y < z) = false)) := by
        by_cases a1 : y < z
        · exact ⟨z, by omega, .inl ⟨rfl, by simpa using a1⟩⟩
        · exact ⟨y, by omega, .inr ⟨rfl, by simpa using a1⟩⟩
      obtain ⟨x', hx', ta⟩ := ta
      obtain ⟨y', hy', tb⟩ := tb
      rw [hx', hy'] at HS
      clear hx' hy'
      rcases ta with ⟨rfl, t1⟩ | ⟨rfl, t1⟩ <;> rcases tb with ⟨rfl, t2⟩ | ⟨rfl, t2⟩
      all_goals
        go_wp2
        go_roundw
        case rel => exact ⟨k + 1, by omega, by go_num, by rw [HS.out], by rw [HS.out], hx.alloc _⟩
        case measure => simp [intOf]; omega
    · go_wp2
      go_ret2
      rw [take_all hlen.out (by omega)]
      exact ⟨rfl, hx⟩

set_option maxRecDepth 100000 in
set_option maxHeartbeats 2000000 in
theorem refFirsts_any (A : Option Addr) (n c : Nat) (l : List Rule) (w : World) (h : Rules w A n c l) (hok : ∀ r ∈ l, OkRule r) (hn2 : n ≤ 200) :
    Calls Try.prog 79 #[.slice A n c] w fun e w' => SetR (ofV (allF l)) (ofE (allF l)) w' e ∧ Ext w w' := by
  have hcap := h.cap
  have hlen := Lib.hid h.len
  have OK := Lib.hid hok
  have HAL := Lib.hid (fun k => allF_len (l.take k) (fun r hr => OK.out r (List.mem_of_mem_take hr)))
  clear hok
  go_enter Try.func79, Try.ntmps79
  go_wp2_with fail
  go_loopw [4, 9] (fun v i wr => ∃ k : Nat, k ≤ n ∧ i = .int .i64 k ∧ OwnR rSpan 80 2 w.heap.size wr v (allF (l.take k)) ∧ Ext w wr) (fun _ i _ => n - (intOf i).toNat)
  case atStart => exact ⟨0, by omega, rfl, OwnR.nil _ _ _ _ _, Ext.refl _⟩
  case round =>
    obtain ⟨k, hk, rfl, ow, hx⟩ := hrel
    by_cases hlt : k < n
    · obtain ⟨r, hrr⟩ := h.idx hlt
      have ok := OK.out r (List.mem_of_getElem? hrr)
      obtain ⟨b, off, s, f, A1, n1, c1, A2, n2, c2, A3, n3, c3, A4, n4, c4, q, rfl, ⟨_, hne⟩, hv, j0, j1, j2, j3, j4, j5, j6⟩ := (h.ext hx).rule hrr
      obtain ⟨ss, hss, hg⟩ := set0_ok ok
      have h0 : r.source[0]? = some (set0 r) := by rw [hss]; rfl
      have hn0 : 0 < n2 := by rw [← hv.source.len, hss]; simp
      obtain ⟨b2, off2, A', n', c', rfl, ⟨hb2, hne2⟩, hc2, hsl⟩ := hv.source.sl h0
      have hsl : Spans wr A' n' c' (set0 r) := hsl
      simp only [Nat.add_zero] at hc2
      have HT : Hid (allF (l.take (k + 1)) = allF (l.take k) ++ set0 r) := Lib.hid (by rw [take_snoc hrr, allF_snoc])
      have hal := HAL.out k
      rw [List.length_take] at hal
      have hgl := hg.len
      rw [hsl.len] at hgl
      have hcap' := hsl.cap
      have ea := (Ext.refl wr).alloc (.cells #[.bool s, .bool f, .slice A1 n1 c1, .slice (some ⟨b2, off2, none⟩) n2 c2, .slice A3 n3 c3, .slice A4 n4 c4, .int .i64 q] 25)
      have ow1 := ow.ext (keep_span bot) ea
      have hx1 := hx.trans ea
      have hsl1 := hsl.ext ea
      have hbd : (allF (l.take k)).length + n' ≤ 60000 := by omega
      clear hrr ok hv hss hg h0 hal hgl ow hsl
      generalize allF (l.take k) = o at *
      go_wp2_with (at_builtin
                   refine wpList_appS T_span (by omega) rfl (.tmp 13) (.tmp 17) rfl rfl ow1 rfl hsl1 (fun _ _ h => h) one_span (keep_span bot) (bot_no _) hbd hx1.size ?_
                   intro v6 w6 o6 g6 hat6
                   have g7 := hx1.app g6 ow1)
      go_roundw
      case rel => exact ⟨k + 1, by omega, by go_num, by rw [HT.out]; exact o6, g7⟩
      case measure => simp [intOf]; omega
    · have e : k = n := by omega
      subst e
      rw [take_all hlen.out (Nat.le_refl _)] at ow
      obtain ⟨AO, cO, rfl, sO⟩ := ow.top
      have sO : Spans wr AO (allF l).length cO (allF l) := sO
      have HO := Lib.hid (refOf_any AO _ cO (allF l) wr sO)
      clear ow sO
      generalize (allF l).length = m at *
      go_wp2_with (go_at_call 57; refine HO.out.mono ?_; rintro e w5 ⟨⟨A5, c5, rfl, s5⟩, x5⟩)
      go_ret2
      exact ⟨⟨A5, c5, rfl, s5⟩, hx.trans x5⟩

end Go.Proofs.Ytfdkbhbnldcbmaa
