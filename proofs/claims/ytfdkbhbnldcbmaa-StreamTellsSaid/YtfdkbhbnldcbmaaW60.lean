/- Walks: a player's small methods. -/
import Derived.Test.YtfdkbhbnldcbmaaPlAt
import Derived.Test.YtfdkbhbnldcbmaaW16
import Derived.RegionTactic
import Derived.StillTailTactics
namespace Go.Proofs.Ytfdkbhbnldcbmaa
open Go.RowKit
set_option linter.unusedVariables false
set_option linter.unusedSimpArgs false

section
variable {b : Nat} {tk : Nat → Prop} {w : World} {A : Option Addr} {n c : Nat} {X : Option Addr} {m d : Nat} {t : List Int} {a td cm st ah : Nat}

set_option maxRecDepth 100000 in
set_option maxHeartbeats 800000 in
theorem more_any (P : PlAt b tk w A n c X m d t a td cm st ah) (hm : m ≤ 4000) (ha : a ≤ m) (hc : cm ≤ 4000) (hst : st ≤ 60000) (hah : ah ≤ 40) :
    Calls Try.prog 142 #[.pointer (some ⟨b, 0, none⟩)] w fun e w' => e = .returned (.bool (decide (a + ah < m) && decide (st < 8 * cm + 40))) ∧ ∃ k, w' = w.drewN k := by
  have h1 := P.c1; have h2 := P.c2; have h4 := P.c4; have h5 := P.c5; have h6 := P.c6
  have HL := Lib.hid (fun W => (Limit_any cm W hc).mono (R' := fun e w' => e = .returned (.int .i64 ((8 * cm + 40 : Nat) : Int)) ∧ w' = W) (fun e w' h => ⟨h.1, h.2.symm⟩))
  have hw : IntKind.i64.wrap ((a : Int) + ah) = (a : Int) + ah := IntWalk.i64_in _ (by omega)
  generalize h8 : 8 * cm + 40 = L at *
  clear h8
  by_cases g1 : a + ah < m
  · have e1 : decide ((a : Int) + (ah : Int) < (m : Int)) = true := by simp; omega
    by_cases g2 : st < L
    · have e2 : decide (st < L) = true := by simp; omega
      have HR : Hid ((decide (a + ah < m) && decide (st < L)) = true) := Lib.hid (by simp [g1, g2])
      clear g1 g2
      go_enter Try.func142, Try.ntmps142
      go_wp2
      go_quiet ((go_at_call 92; refine Calls.quiet_of_same (HL.out _)))
      go_wp2
      go_ret
      rw [HR.out]
      exact ⟨rfl, _, rfl⟩
    · have e2 : decide (st < L) = false := by simp; omega
      have HR : Hid ((decide (a + ah < m) && decide (st < L)) = false) := Lib.hid (by simp [g1, g2])
      clear g1 g2
      go_enter Try.func142, Try.ntmps142
      go_wp2
      go_quiet ((go_at_call 92; refine Calls.quiet_of_same (HL.out _)))
      go_wp2
      go_ret
      rw [HR.out]
      exact ⟨rfl, _, rfl⟩
  · have e1 : decide ((a : Int) + (ah : Int) < (m : Int)) = false := by simp; omega
    have HR : Hid ((decide (a + ah < m) && decide (st < L)) = false) := Lib.hid (by simp [g1])
    clear g1
    go_enter Try.func142, Try.ntmps142
    go_wp2
    go_quiet (fail)
    go_wp2
    go_ret
    rw [HR.out]
    exact ⟨rfl, _, rfl⟩

set_option maxRecDepth 100000 in
set_option maxHeartbeats 800000 in
theorem tell_any (P : PlAt b tk w A n c X m d t a td cm st ah) (hm : m ≤ 4000) (ha : a ≤ m) (htd : td ≤ a) :
    Calls Try.prog 99 #[.pointer (some ⟨b, 0, none⟩)] w fun e w' => ∃ v, e = .returned v ∧ OwnR rRune 21 1 w.heap.size w' v ((t.take a).drop td) ∧ PlAt b tk w' A n c X m d t a a cm st ah ∧ Trn b w w' := by
  have h1 := P.c1; have h2 := P.c2; have h3 := P.c3; have hbs := P.wr.1
  have hcap := P.text.cap
  have hmax := P.text.max
  have hs := fun W => run_cut_lh T_rune X m d (td : Int) (a : Int) td a rfl rfl htd (by omega) W
  have HC := Lib.hid (fun W (e : Ext w W) => Clone_rune one_rune (keep_rune bot) _ _ _ _ W ((P.runes.ext e).mid (lo := td) (hi := a) htd ha) (by omega) (fun _ _ h => h))
  go_enter Try.func99, Try.ntmps99
  go_wp2
  go_still_tail 13, (by kernel_rfl)
  go_wp2_with (go_at_call 91; refine (HC.out _ (Ext.refl w).drew).mono ?_; rintro e w1 ⟨v, rfl, ov, x1⟩; have E1 := (Ext.refl w).drew.trans x1; have P1 := P.ext E1; have k2 := P1.c2; have k3 := P1.c3; have kz := P1.wr.2; have kl := P1.wr.1)
  go_ret
  exact ⟨v, rfl, ov.keep (keep_rune bot) (fun _ h _ => h.elim) (fun g hg => Below.heap_setCell _ _ _ _ (by have := (ov.lt g hg).1; have hb : b < w.drew.heap.size := hbs; simp only; omega)), P1.setTold rfl, (Trn.of b E1).set _ _⟩

end

end Go.Proofs.Ytfdkbhbnldcbmaa
