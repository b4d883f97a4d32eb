/- Walk: what is in two sets. -/
import Derived.Test.YtfdkbhbnldcbmaaW32
namespace Go.Proofs.Ytfdkbhbnldcbmaa
open Go.RowKit
set_option linter.unusedVariables false
set_option linter.unusedSimpArgs false

/-- a slice's length -/
def vlen : Value → Nat
  | .slice _ n _ => n
  | _ => 0

set_option maxRecDepth 100000 in
set_option maxHeartbeats 3200000 in
theorem meet_any (A : Option Addr) (n c : Nat) (a : List Sp) (B : Option Addr) (m d : Nat) (b : List Sp) (w : World) (hA : Spans w A n c a) (hB : Spans w B m d b) (ga : ∀ x ∈ a, okSp x) (gb : ∀ x ∈ b, okSp x) (hn : n ≤ 1000) (hm : m ≤ 1000) :
    Calls Try.prog 131 #[.slice A n c, .slice B m d] w fun e w' => ∃ v, e = .returned v ∧ OwnR rSpan 80 2 w.heap.size w' v (meetL a b) ∧ Ext w w' := by
  have HA := Lib.hid hA; have HB := Lib.hid hB; have GA := Lib.hid ga; have GB := Lib.hid gb
  clear hA hB ga gb
  go_enter Try.func131, Try.ntmps131
  go_wp2
  go_loopw [0, 1, 5] (fun u v o wr => ∃ (A' : Option Addr) (n' c' : Nat) (a' : List Sp) (B' : Option Addr) (m' d' : Nat) (b' : List Sp) (out : List Sp), u = .slice A' n' c' ∧ v = .slice B' m' d' ∧ Spans w A' n' c' a' ∧ Spans w B' m' d' b' ∧ Hid (∀ x ∈ a', okSp x) ∧ Hid (∀ x ∈ b', okSp x) ∧
      out.length + n' + m' ≤ 2000 ∧ Hid (meetL a b = out ++ meetL a' b') ∧ OwnR rSpan 80 2 w.heap.size wr o out ∧ Ext w wr) (fun u v _ _ => vlen u + vlen v)
  case atStart => exact ⟨A, n, c, a, B, m, d, b, [], rfl, rfl, HA.out, HB.out, GA.out, GB.out, by simp; omega, rfl, OwnR.nil _ _ _ _ _, Ext.refl _⟩
  case round =>
    obtain ⟨A', n', c', a', B', m', d', b', out, rfl, rfl, hA, hB, ga, gb, hbd, HK, ow, hx⟩ := hrel
    by_cases hn0 : 0 < n'
    · by_cases hm0 : 0 < m'
      · obtain ⟨x, hxx⟩ := hA.idx hn0
        obtain ⟨y, hyy⟩ := hB.idx hm0
        obtain ⟨b1, o1, rfl, ⟨_, hne1⟩, c1, c2, xb1, xb2⟩ := (hA.ext hx).span hxx
        obtain ⟨b2, o2, rfl, ⟨_, hne2⟩, d1, d2, yb1, yb2⟩ := (hB.ext hx).span hyy
        obtain ⟨hx1, hx2, hx3⟩ := ga.out x (List.mem_of_getElem? hxx)
        obtain ⟨hy1, hy2, hy3⟩ := gb.out y (List.mem_of_getElem? hyy)
        simp only [Nat.zero_mul, Nat.add_zero] at c1 c2 d1 d2
        have ea : a' = x :: a'.drop 1 := by have := drop_cons hxx; simpa using this
        have eb : b' = y :: b'.drop 1 := by have := drop_cons hyy; simpa using this
        have HK2 : Hid (meetL a b = out ++ ((if max x.lo y.lo ≤ min x.hi y.hi then [⟨max x.lo y.lo, min x.hi y.hi⟩] else []) ++ (if x.hi < y.hi then meetL (a'.drop 1) b' else meetL a' (b'.drop 1)))) := Lib.hid (by
          rw [HK.out]; congr 1
          conv => lhs; rw [ea, eb]
          rw [meetL_cons, ← ea, ← eb])
        obtain ⟨_, _, e1', _, k1, k2, _, _⟩ := hA.span hxx; cases e1'
        obtain ⟨_, _, e2', _, k3, k4, _, _⟩ := hB.span hyy; cases e2'
        simp only [Nat.zero_mul, Nat.add_zero] at k2 k4
        have K2 := Lib.hid k2; have K4 := Lib.hid k4
        clear ea eb hxx hyy k1 k2 k3 k4
        have hcA := hA.cap; have hcB := hB.cap
        have hs1 := fun W => run_cut_l T_span (some ⟨b1, o1, none⟩) n' c' 1 1 rfl (by omega) W
        have hs2 := fun W => run_cut_l T_span (some ⟨b2, o2, none⟩) m' d' 1 1 rfl (by omega) W
        have hA2 := hA.drop (lo := 1) (by omega)
        have hB2 := hB.drop (lo := 1) (by omega)
        have ga2 : Hid (∀ x ∈ a'.drop 1, okSp x) := Lib.hid fun x hx => ga.out x (List.mem_of_mem_drop hx)
        have gb2 : Hid (∀ x ∈ b'.drop 1, okSp x) := Lib.hid fun x hx => gb.out x (List.mem_of_mem_drop hx)
        go_wp2_with fail
        go_quiet (fail)
        generalize hlo : (if x.lo < y.lo then y.lo else x.lo) = lo
        generalize hhi : (if y.hi < x.hi then y.hi else x.hi) = hi
        have elo : max x.lo y.lo = lo := by rw [← hlo]; split <;> omega
        have ehi : min x.hi y.hi = hi := by rw [← hhi]; split <;> omega
        rw [elo, ehi] at HK2
        have blo : i32 lo := by unfold i32; omega
        have bhi : i32 hi := by unfold i32; omega
        clear hlo hhi elo ehi c1 c2 d1 d2
        generalize hw5 : wr.drewN _ = w5
        have e5 : Ext wr w5 := by rw [← hw5]; exact (Ext.refl _).drewN _
        clear hw5
        have ex5 := hx.trans e5
        have ow5 := ow.ext (keep_span bot) e5
        by_cases t1 : lo ≤ hi
        · have t1' : decide (lo ≤ hi) = true := by simpa using t1
          rw [if_pos t1] at HK2
          have hx6 := ex5.alloc (.cells #[.int .i32 lo, .int .i32 hi] 80)
          have ow6 := ow5.ext (keep_span bot) ((Ext.refl _).alloc (.cells #[.int .i32 lo, .int .i32 hi] 80))
          have s6 := span_new w5 ⟨lo, hi⟩ 80 blo bhi
          by_cases t2 : x.hi < y.hi
          · have t2' : decide (x.hi < y.hi) = true := by simpa using t2
            rw [if_pos t2] at HK2
            go_upto_region 6 with (first
              | (at_builtin
                 refine wpList_appS T_span (by omega) rfl (.tmp 37) (.tmp 41) rfl rfl ow6 rfl s6 (fun _ _ h => h) one_span (keep_span bot) (bot_no _) ?_ hx6.size ?_
                 · omega
                 intro v7 w7 o7 g7 hat7
                 have g8 := hx6.app g7 ow6
                 have c2 := g8.cell K2.out; have d2 := g8.cell K4.out))
            go_quiet (fail)
            go_wp2
            go_roundw
            case rel => exact ⟨_, n' - 1, c' - 1, a'.drop 1, _, m', d', b', out ++ [⟨lo, hi⟩], rfl, rfl, hA2, hB, ga2, gb, by simp; omega, Lib.hid (by rw [HK2.out, List.append_assoc]), o7.ext (keep_span bot) ((Ext.refl _).drewN _), g8.drewN _⟩
            case measure => simp [vlen]; omega
          · have t2' : decide (x.hi < y.hi) = false := by simpa using t2
            rw [if_neg t2] at HK2
            go_upto_region 6 with (first
              | (at_builtin
                 refine wpList_appS T_span (by omega) rfl (.tmp 37) (.tmp 41) rfl rfl ow6 rfl s6 (fun _ _ h => h) one_span (keep_span bot) (bot_no _) ?_ hx6.size ?_
                 · omega
                 intro v7 w7 o7 g7 hat7
                 have g8 := hx6.app g7 ow6
                 have c2 := g8.cell K2.out; have d2 := g8.cell K4.out))
            go_quiet (fail)
            go_wp2
            go_roundw
            case rel => exact ⟨_, n', c', a', _, m' - 1, d' - 1, b'.drop 1, out ++ [⟨lo, hi⟩], rfl, rfl, hA, hB2, ga, gb2, by simp; omega, Lib.hid (by rw [HK2.out, List.append_assoc]), o7.ext (keep_span bot) ((Ext.refl _).drewN _), g8.drewN _⟩
            case measure => simp [vlen]; omega
        · have t1' : decide (lo ≤ hi) = false := by simpa using t1
          rw [if_neg t1, List.nil_append] at HK2
          have c2 := ex5.cell K2.out; have d2 := ex5.cell K4.out
          by_cases t2 : x.hi < y.hi
          · have t2' : decide (x.hi < y.hi) = true := by simpa using t2
            rw [if_pos t2] at HK2
            go_upto_region 6 with fail
            go_quiet (fail)
            go_wp2
            go_roundw
            case rel => exact ⟨_, n' - 1, c' - 1, a'.drop 1, _, m', d', b', out, rfl, rfl, hA2, hB, ga2, gb, by omega, Lib.hid HK2.out, ow5.ext (keep_span bot) ((Ext.refl _).drewN _), ex5.drewN _⟩
            case measure => simp [vlen]; omega
          · have t2' : decide (x.hi < y.hi) = false := by simpa using t2
            rw [if_neg t2] at HK2
            go_upto_region 6 with fail
            go_quiet (fail)
            go_wp2
            go_roundw
            case rel => exact ⟨_, n', c', a', _, m' - 1, d' - 1, b'.drop 1, out, rfl, rfl, hA, hB2, ga, gb2, by omega, Lib.hid HK2.out, ow5.ext (keep_span bot) ((Ext.refl _).drewN _), ex5.drewN _⟩
            case measure => simp [vlen]; omega
      · have hb : b' = [] := List.eq_nil_of_length_eq_zero (by rw [hB.len]; omega)
        have HK2 : Hid (meetL a b = out) := Lib.hid (by rw [HK.out, hb, meetL_nil', List.append_nil])
        have t0 : m' = 0 := by omega
        subst t0
        go_wp2
        go_ret
        exact ⟨_, rfl, by rw [HK2.out]; exact ow, hx⟩
    · have ha : a' = [] := List.eq_nil_of_length_eq_zero (by rw [hA.len]; omega)
      have HK2 : Hid (meetL a b = out) := Lib.hid (by rw [HK.out, ha, meetL_nil, List.append_nil])
      have t0 : n' = 0 := by omega
      subst t0
      go_wp2
      go_ret
      exact ⟨_, rfl, by rw [HK2.out]; exact ow, hx⟩

end Go.Proofs.Ytfdkbhbnldcbmaa
