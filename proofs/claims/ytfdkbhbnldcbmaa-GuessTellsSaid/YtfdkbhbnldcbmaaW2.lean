/- Walks: sets of runes as they are asked; what is wrong with them. -/
import Derived.Test.YtfdkbhbnldcbmaaW1
namespace Go.Proofs.Ytfdkbhbnldcbmaa
open Go.RowKit
set_option linter.unusedVariables false

set_option maxHeartbeats 800000 in
theorem setsWrong_any (A : Option Addr) (n c : Nat) (l : List Sp) (w : World) (h : Spans w A n c l) :
    Calls Try.prog 54 #[.slice A n c] w fun e w' => e = .returned (.int .i64 (wrongSet l)) ∧ Ext w w' := by
  have hm := h.max; unfold maxLen at hm
  have hcap := h.cap
  have hlen := Lib.hid h.len
  by_cases hbig : 200 < n
  · have e : wrongSet l = 5 := by unfold wrongSet; rw [if_pos (by rw [h.len]; exact hbig)]
    have H := Lib.hid e; clear e
    go_enter Try.func54, Try.ntmps54
    go_wp2
    go_ret
    rw [H.out]; exact ⟨rfl, Ext.refl _⟩
  have e0 : wrongSet l = wrongFrom none l := by unfold wrongSet; rw [if_neg (by rw [h.len]; exact hbig)]
  have H0 := Lib.hid e0; clear e0
  go_enter Try.func54, Try.ntmps54
  go_wp2
  go_loopw [10] (fun i wr => ∃ k : Nat, k ≤ n ∧ i = .int .i64 k ∧ wrongSet l = wrongFrom (prev l k) (l.drop k) ∧ Hid (∀ y, prev l k = some y → spBad y = false) ∧ Ext w wr) (fun i _ => n - (intOf i).toNat)
  case atStart => exact ⟨0, by omega, rfl, H0.out, fun y hy => by simp [prev] at hy, Ext.refl _⟩
  case round =>
    obtain ⟨k, hk, rfl, hkk, hpv, hx⟩ := hrel
    have HK := Lib.hid hkk; clear hkk
    by_cases hlt : k < n
    · obtain ⟨x, hxx⟩ := h.idx hlt
      have HX := Lib.hid hxx
      obtain ⟨b, off, rfl, ⟨hbl, hne⟩, hc1, hc2, hb1, hb2⟩ := (h.ext hx).span hxx
      have HD := Lib.hid (drop_cons hxx); clear hxx
      by_cases hbad : spBad x = true
      · have hval : wrongSet l = 3 := by rw [HK.out, HD.out, wrongFrom_bad hbad]
        have HV := Lib.hid hval; clear hval
        have hbb := spBad_yes hbad
        clear hbad
        obtain ⟨xlo, xhi⟩ := x
        dsimp only at *
        by_cases h1 : xlo < 0
        · go_wp2
          go_ret
          rw [HV.out]; exact ⟨rfl, hx.alloc _⟩
        · by_cases h2 : 1114111 < xhi
          · go_wp2
            go_ret
            rw [HV.out]; exact ⟨rfl, hx.alloc _⟩
          · have h3 : xhi < xlo := by omega
            go_wp2
            go_ret
            rw [HV.out]; exact ⟨rfl, hx.alloc _⟩
      · have hgood : spBad x = false := by simpa using hbad
        have HG := Lib.hid hgood
        have hbb := spBad_no hgood
        obtain ⟨h1, h2, h3⟩ := hbb
        clear hbad hgood
        by_cases hz : 0 < k
        · obtain ⟨y, hy⟩ := h.idx (k := k - 1) (by omega)
          have hpy : prev l k = some y := by unfold prev; rw [if_neg (by omega)]; exact hy
          have hyg := hpv.out y hpy
          obtain ⟨b', off', hA, _, _, hc3, _, hb3⟩ := (h.ext hx).span hy
          simp only [Option.some.injEq, Addr.mk.injEq, and_true] at hA
          obtain ⟨rfl, rfl⟩ := hA
          have hyh := (spBad_no hyg).2.1
          have HP := Lib.hid hpy; clear hpy hy hyg
          have hp2 : ((k - 1 : Nat) : Int) < (n : Int) := by omega
          obtain ⟨xlo, xhi⟩ := x
          obtain ⟨ylo, yhi⟩ := y
          dsimp only at *
          have hw1 : IntKind.i64.wrap ((k : Int) - 1) = ((k - 1 : Nat) : Int) := (IntWalk.i64_in _ (by omega)).trans (by omega)
          have hw2 : IntKind.i32.wrap (yhi + 1) = yhi + 1 := IntWalk.i32_in _ (by omega)
          by_cases hnr : xlo ≤ yhi + 1
          · go_wp2
            go_quiet (fail)
            clear hw1 hw2
            go_wp2
            go_ret
            rw [HK.out, HD.out, HP.out, wrongFrom_near HG.out (near_yes hnr)]
            exact ⟨rfl, (hx.alloc _).drewN _⟩
          · have hnr' : decide (xlo ≤ yhi + 1) = false := by simpa using hnr
            go_wp2
            go_quiet (fail)
            clear hw1 hw2
            go_wp2
            go_roundw
            case rel => exact ⟨k + 1, by omega, by go_num, by rw [HK.out, HD.out, HP.out, prev_succ HX.out, wrongFrom_next HG.out (near_no (by dsimp only; omega))], fun y hy => by rw [prev_succ HX.out] at hy; cases hy; exact HG.out, (hx.alloc _).drewN _⟩
            case measure => simp [intOf]; omega
        · have hpn : prev l k = none := by unfold prev; rw [if_pos (by omega)]
          have HP := Lib.hid hpn; clear hpn
          have hz' : decide ((0 : Int) < (k : Int)) = false := by simp; omega
          obtain ⟨xlo, xhi⟩ := x
          dsimp only at *
          go_wp2
          go_quiet (fail)
          go_wp2
          go_roundw
          case rel => exact ⟨k + 1, by omega, by go_num, by rw [HK.out, HD.out, prev_succ HX.out, HP.out]; exact wrongFrom_next HG.out rfl, fun y hy => by rw [prev_succ HX.out] at hy; cases hy; exact HG.out, (hx.alloc _).drewN _⟩
          case measure => simp [intOf]; omega
    · go_wp2
      go_ret
      rw [HK.out, drop_end hlen.out hlt]
      exact ⟨rfl, hx⟩

end Go.Proofs.Ytfdkbhbnldcbmaa
