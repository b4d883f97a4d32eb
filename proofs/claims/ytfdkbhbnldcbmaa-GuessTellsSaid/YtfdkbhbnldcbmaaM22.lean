/- Walk of the law GuessTells. -/
import Derived.Test.YtfdkbhbnldcbmaaW82
import Derived.StillTailTactics
namespace Go.Proofs.Ytfdkbhbnldcbmaa
open Go.RowKit
set_option linter.unusedVariables false
set_option linter.unusedSimpArgs false

section
variable (A : Option Addr) (n c : Nat) (l : List Rule) (B : Option Addr) (m d : Nat) (ds : List Sp) (X : Option Addr) (p q : Nat) (t : List Int) (M : Int) (w : World) (h : Rules w A n c l) (hd : Spans w B m d ds) (ht : Runes w X p q t)
set_option maxRecDepth 100000 in
set_option maxHeartbeats 1600000 in
include h hd ht in
theorem GuessTells_any : Calls Try.prog 10 #[.slice A n c, .slice B m d, .slice X p q, .int .i64 M] w fun e w' => e = .returned (.bool true) ∧ Ext w w' := by
  have C1 := Lib.hid (guess_any A n c l B m d ds X p q t w h hd ht M)
  have C2 := Lib.hid (fun W (e : Ext w W) => refGuess_any A n c l B m d ds X p q t W (h.ext e) (hd.ext e) (ht.ext e) M)
  unfold GuessR at C1 C2
  generalize guessE l ds t M = x at *
  generalize guessV l ds t M = V at *
  obtain ⟨N, hN⟩ : ∃ N, V.length = N := ⟨_, rfl⟩
  have HN := Lib.hid hN
  clear h hd ht hN
  go_enter Try.func10, Try.ntmps10
  go_wp2_with (first
    | (go_at_call 46
       refine C1.out.mono ?_
       rintro e w1 ⟨⟨A1, n1, c1, rfl, s1⟩, x1⟩
       have h1 : n1 = N := by rw [← s1.len]; exact HN.out
       subst h1)
    | (go_at_call 47
       refine (C2.out _ x1).mono ?_
       rintro e w2 ⟨⟨A2, n2, c2, rfl, s2⟩, x2⟩
       have h2 : n2 = n1 := by rw [← s2.len]; exact HN.out
       subst h2
       have S1 := Lib.hid (Texts.ext s1 x2)
       have S2 : Hid (Texts w2 A2 n2 c2 V) := Lib.hid s2
       have e2 := x1.trans x2
       have hc1 := s1.cap
       have hm1 := s1.max
       have hc2 := s2.cap
       have hm2 := s2.max
       unfold maxLen at hm1 hm2
       clear s1 s2))
  go_loopw [42] (fun i wr => ∃ j : Nat, i = .int .i64 j ∧ j ≤ n2 ∧ Ext w2 wr) (fun i _ => n2 - (intOf i).toNat)
  case atStart => exact ⟨0, rfl, by omega, Ext.refl _⟩
  case round =>
    obtain ⟨j, rfl, hj, hx⟩ := hrel
    by_cases hlt : j < n2
    · obtain ⟨t', ht'⟩ := S1.out.idx hlt
      obtain ⟨d1, p1, X1, a1, e1, rfl, _, hcc1, hs1⟩ := (Texts.ext S1.out hx).sl ht'
      obtain ⟨d2, p2, X2, a2, e2', rfl, _, hcc2, hs2⟩ := (Texts.ext S2.out hx).sl ht'
      clear ht'
      go_wp2
      go_still_tail 8, (by kernel_rfl)
      change wpList _ _ _ _ _ wr.drew
      have hxd := (Ext.refl wr).drew
      have hs1d := Runes.ext (SlR.mono hs1 (fun _ _ h => h) (fun _ h => h)) hxd
      have hs2d := Runes.ext (SlR.mono hs2 (fun _ _ h => h) (fun _ h => h)) hxd
      generalize wr.drew = w4 at *
      go_wp2_with (go_at_call 30; refine (Same_any _ _ _ _ _ _ _ _ _ hs1d hs2d).mono ?_; rintro x w5 ⟨rfl, x5⟩; simp only [decide_true])
      go_roundw
      case rel => exact ⟨j + 1, by go_num, by omega, (hx.trans hxd).trans x5⟩
      case measure => simp [intOf]; omega
    · go_wp2
      go_ret
      exact ⟨rfl, e2.trans hx⟩
end

end Go.Proofs.Ytfdkbhbnldcbmaa
