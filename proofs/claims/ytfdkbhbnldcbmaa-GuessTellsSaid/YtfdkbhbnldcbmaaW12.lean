/- Walk: whether two texts are the same. -/
import Derived.Test.YtfdkbhbnldcbmaaProg
import Derived.Test.YtfdkbhbnldcbmaaSpec
namespace Go.Proofs.Ytfdkbhbnldcbmaa
open Go.RowKit
set_option linter.unusedVariables false

theorem same_step {α : Type} {l m : List α} {k : Nat} {x : α} (h : l.take k = m.take k) (hl : l[k]? = some x) (hm : m[k]? = some x) : l.take (k+1) = m.take (k+1) := by
  rw [take_snoc hl, take_snoc hm, h]

set_option maxHeartbeats 400000 in
theorem Same_any (A B : Option Addr) (n c n' d : Nat) (l m : List Int) (w : World) (hA : Runes w A n c l) (hB : Runes w B n' d m) :
    Calls Try.prog 30 #[.slice A n c, .slice B n' d] w fun e w' => e = .returned (.bool (decide (l = m))) ∧ Ext w w' := by
  have h1 := Lib.hid hA.len; have h2 := Lib.hid hB.len
  have hmA := hA.max; have hcA := hA.cap; unfold maxLen at hmA
  by_cases hlm : n = n'
  · subst hlm
    have hn : ((n : Int) != (n : Int)) = false := by simp
    go_enter Try.func30, Try.ntmps30
    go_wp2
    go_loopw [13] (fun i wr => ∃ k : Nat, k ≤ n ∧ i = .int .i64 k ∧ l.take k = m.take k ∧ Ext w wr) (fun i _ => n - (intOf i).toNat)
    case atStart => exact ⟨0, by omega, rfl, rfl, Ext.refl _⟩
    case round =>
      obtain ⟨k, hk, rfl, hkk, hx⟩ := hrel
      have HK := Lib.hid hkk; clear hkk
      by_cases hlt : k < n
      · obtain ⟨x, hxx⟩ := hA.idx hlt
        obtain ⟨y, hyy⟩ := hB.idx hlt
        obtain ⟨b, off, rfl, _, hc, _⟩ := (hA.ext hx).rune hxx
        obtain ⟨b2, off2, rfl, _, hc2, _⟩ := (hB.ext hx).rune hyy
        by_cases heq : x = y
        · subst heq
          have HX := Lib.hid hxx; have HY := Lib.hid hyy; clear hxx hyy
          go_wp2
          go_quiet (fail)
          go_wp2
          go_roundw
          case rel => exact ⟨k+1, by omega, by go_num, same_step HK.out HX.out HY.out, hx.drewN _⟩
          case measure => simp [intOf]; omega
        · have hne : (x != y) = true := by simpa using heq
          have hd : decide (l = m) = false := by simp; rintro rfl; rw [hxx] at hyy; cases hyy; exact heq rfl
          have HD := Lib.hid hd
          clear hd heq hxx hyy
          go_wp2
          go_quiet (fail)
          go_wp2
          go_ret
          rw [HD.out]
          exact ⟨rfl, hx.drewN _⟩
      · have hd : decide (l = m) = true := by
          have h3 := HK.out
          rw [take_all h1.out (by omega), take_all h2.out (by omega)] at h3
          simpa using h3
        have HD := Lib.hid hd
        clear hd
        go_wp2
        go_ret
        rw [HD.out]
        exact ⟨rfl, hx⟩
  · have hn : ((n : Int) != (n' : Int)) = true := by simp; omega
    have hd : decide (l = m) = false := by simp; rintro rfl; exact hlm (h1.out.symm.trans h2.out)
    have H := Lib.hid hd; clear hd
    go_enter Try.func30, Try.ntmps30
    go_wp2
    go_ret
    rw [H.out]
    exact ⟨rfl, Ext.refl _⟩

end Go.Proofs.Ytfdkbhbnldcbmaa
