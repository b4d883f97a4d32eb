/- Walk: how far right rules look, by the document. -/
import Derived.Test.YtfdkbhbnldcbmaaW20
namespace Go.Proofs.Ytfdkbhbnldcbmaa
open Go.RowKit
set_option linter.unusedVariables false
set_option linter.unusedSimpArgs false

set_option maxRecDepth 100000 in
set_option maxHeartbeats 1600000 in
theorem refReachB_any (A : Option Addr) (n c : Nat) (l : List Rule) (w : World) (h : Rules w A n c l) (hok : ∀ r ∈ l, OkRule r) :
    Calls Try.prog 74 #[.slice A n c] w fun e w' => e = .returned (.tuple #[.int .i64 (reachB l 0 0).1, .int .i64 (reachB l 0 0).2]) ∧ Ext w w' := by
  have hm := h.max; unfold maxLen at hm
  have hcap := h.cap
  have hlen := Lib.hid h.len
  have OK := Lib.hid hok; clear hok
  go_enter Try.func74, Try.ntmps74
  go_wp2
  go_loopw [4, 5, 11] (fun u v i wr => ∃ k : Nat, k ≤ n ∧ i = .int .i64 k ∧ u = .int .i64 (reachB (l.take k) 0 0).1 ∧ v = .int .i64 (reachB (l.take k) 0 0).2 ∧ Ext w wr) (fun _ _ i _ => n - (intOf i).toNat)
  case atStart => exact ⟨0, by omega, rfl, rfl, rfl, Ext.refl _⟩
  case round =>
    obtain ⟨k, hk, rfl, rfl, rfl, hx⟩ := hrel
    by_cases hlt : k < n
    · obtain ⟨r, hrr⟩ := h.idx hlt
      obtain ⟨b, off, s, f, A1, n1, c1, A2, n2, c2, A3, n3, c3, A4, n4, c4, q, rfl, ⟨_, hne⟩, hv, k0, k1, k2, k3, k4, k5, k6⟩ := (h.ext hx).rule hrr
      have ok := OK.out r (List.mem_of_getElem? hrr)
      have l1 := ok.lb; have l2 := ok.ls; have l3 := ok.la
      rw [hv.before.len] at l1; rw [hv.source.len] at l2; rw [hv.after.len] at l3
      have hb := reachB_le (l.take k) 0 0 (fun x hx => OK.out x (List.mem_of_mem_take hx)) (by omega) (by omega)
      have HS : Hid (reachB (l.take (k + 1)) 0 0 = (max (reachB (l.take k) 0 0).1 n1, max (reachB (l.take k) 0 0).2 (n2 + n3))) := Lib.hid (by
        rw [take_snoc hrr, reachB_snoc, hv.before.len, hv.source.len, hv.after.len])
      clear hrr ok hv
      generalize (reachB (l.take k) 0 0).1 = x at *
      generalize (reachB (l.take k) 0 0).2 = y at *
      have hw : IntKind.i64.wrap ((n2 : Int) + n3) = ((n2 + n3 : Nat) : Int) := by rw [IntWalk.i64_in _ (by omega)]; omega
      generalize n2 + n3 = z at *
      have ta : ∃ x' : Nat, max x n1 = x' ∧ ((n1 = x' ∧ decide (x < n1) = true) ∨ (x = x' ∧ decide (x < n1) = false)) := by
        by_cases a1 : x < n1
        · exact ⟨n1, by omega, .inl ⟨rfl, by simpa using a1⟩⟩
        · exact ⟨x, by omega, .inr ⟨rfl, by simpa using a1⟩⟩
      have tb : ∃ y' : Nat, max y z = y' ∧ ((z = y' ∧ decide (y < z) = true) ∨ (y = y' ∧ decide (y < z) = false)) := by
        by_cases a1 : y < z
        · exact ⟨z, by omega, .inl ⟨rfl, by simpa using a1⟩⟩
        · exact ⟨y, by omega, .inr ⟨rfl, by simpa using a1⟩⟩
      obtain ⟨x', hx', ta⟩ := ta
      obtain ⟨y', hy', tb⟩ := tb
      rw [hx', hy'] at HS
      clear hx' hy'
      rcases ta with ⟨rfl, t1⟩ | ⟨rfl, t1⟩ <;> rcases tb with ⟨rfl, t2⟩ | ⟨rfl, t2⟩
      all_goals
        go_wp2
        go_roundw
        case rel => exact ⟨k + 1, by omega, by go_num, by rw [HS.out], by rw [HS.out], hx.alloc _⟩
        case measure => simp [intOf]; omega
    · go_wp2
      go_ret2
      rw [take_all hlen.out (by omega)]
      exact ⟨rfl, hx⟩

end Go.Proofs.Ytfdkbhbnldcbmaa
