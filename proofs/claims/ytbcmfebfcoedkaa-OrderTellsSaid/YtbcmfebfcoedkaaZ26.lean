/- Walk of the law NormTells. -/
import Derived.Test.YtbcmfebfcoedkaaZ25
import Derived.Deep.QuietTactic
namespace Go.Proofs.Ytbcmfebfcoedkaa
open Go.RowKit
set_option linter.unusedVariables false
set_option linter.unusedSimpArgs false

theorem same_step {α : Type} {l m : List α} {k : Nat} {x : α} (h : l.take k = m.take k) (hl : l[k]? = some x) (hm : m[k]? = some x) : l.take (k+1) = m.take (k+1) := by
  rw [take_snoc hl, take_snoc hm, h]

set_option maxHeartbeats 400000 in
theorem Same_any (A B : Option Addr) (n c n' d : Nat) (l m : List Int) (w : World) (hA : Runes w A n c l) (hB : Runes w B n' d m) :
    Calls Try.prog 11 #[.slice A n c, .slice B n' d] w fun e w' => e = .returned (.bool (decide (l = m))) ∧ Ext w w' := by
  have h1 := Lib.hid hA.len; have h2 := Lib.hid hB.len
  have hmA := hA.max; have hcA := hA.cap; unfold maxLen at hmA
  by_cases hlm : n = n'
  · subst hlm
    have hn : ((n : Int) != (n : Int)) = false := by simp
    go_enter Try.func11, Try.ntmps11
    go_wp2
    go_loopw [13] (fun i wr => ∃ k : Nat, k ≤ n ∧ i = .int .i64 k ∧ l.take k = m.take k ∧ Ext w wr) (fun i _ => n - (intOf i).toNat)
    case atStart => exact ⟨0, by omega, rfl, rfl, Ext.refl _⟩
    case round =>
      obtain ⟨k, hk, rfl, hkk, hx⟩ := hrel
      have HK := Lib.hid hkk; clear hkk
      by_cases hlt : k < n
      · obtain ⟨x, hxx⟩ := hA.idx hlt
        obtain ⟨y, hyy⟩ := hB.idx hlt
        obtain ⟨b, off, rfl, _, hc, _⟩ := (hA.ext hx).rune hxx
        obtain ⟨b2, off2, rfl, _, hc2, _⟩ := (hB.ext hx).rune hyy
        by_cases heq : x = y
        · subst heq
          have HX := Lib.hid hxx; have HY := Lib.hid hyy; clear hxx hyy
          go_wp2
          go_quiet (fail)
          go_wp2
          go_roundw
          case rel => exact ⟨k+1, by omega, by go_num, same_step HK.out HX.out HY.out, hx.drewN _⟩
          case measure => simp [intOf]; omega
        · have hne : (x != y) = true := by simpa using heq
          have hd : decide (l = m) = false := by simp; rintro rfl; rw [hxx] at hyy; cases hyy; exact heq rfl
          have HD := Lib.hid hd
          clear hd heq hxx hyy
          go_wp2
          go_quiet (fail)
          go_wp2
          go_ret
          rw [HD.out]
          exact ⟨rfl, hx.drewN _⟩
      · have hd : decide (l = m) = true := by
          have h3 := HK.out
          rw [take_all h1.out (by omega), take_all h2.out (by omega)] at h3
          simpa using h3
        have HD := Lib.hid hd
        clear hd
        go_wp2
        go_ret
        rw [HD.out]
        exact ⟨rfl, hx⟩
  · have hn : ((n : Int) != (n' : Int)) = true := by simp; omega
    have hd : decide (l = m) = false := by simp; rintro rfl; exact hlm (h1.out.symm.trans h2.out)
    have H := Lib.hid hd; clear hd
    go_enter Try.func11, Try.ntmps11
    go_wp2
    go_ret
    rw [H.out]
    exact ⟨rfl, Ext.refl _⟩


set_option maxRecDepth 1000000 in
set_option maxHeartbeats 8000000 in
theorem NormTells_any (A : Option Addr) (n c : Nat) (l : List Int) (r : Int) (w : World) (h : Runes w A n c l) :
    Calls Try.prog 3 #[.slice A n c, .int .i32 r] w fun e w' => e = .returned (.bool true) ∧ Ext w w' := by
  have C1 := Lib.hid (Pairs_any w)
  have C2 := Lib.hid (fun W => refPairs_any W)
  have K1 := Lib.hid (fun W => Class_any r W)
  have K2 := Lib.hid (fun W => refClass_any r W)
  have D1 := Lib.hid (fun W (e : Ext w W) => Apart_any A n c l W (h.ext e))
  have D2 := Lib.hid (fun W (e : Ext w W) => refApart_any A n c l W (h.ext e))
  have D3 := Lib.hid (fun W (e : Ext w W) => Together_any A n c l W (h.ext e))
  have D4 := Lib.hid (fun W (e : Ext w W) => refTogether_any A n c l W (h.ext e))
  have D5 := Lib.hid (fun W (e : Ext w W) => Bare_any A n c l W (h.ext e))
  have D6 := Lib.hid (fun W (e : Ext w W) => refBare_any A n c l W (h.ext e))
  have HL := Lib.hid pairs_len
  obtain ⟨cr, hcr⟩ : ∃ q, clsOf r = q := ⟨_, rfl⟩
  rw [hcr] at K1 K2
  generalize apartE l = er at *
  generalize apartV l = VA at *
  generalize togV l = VT at *
  generalize bareV l = VB at *
  clear h hcr
  go_enter Try.func3, Try.ntmps3
  go_wp2_with (first
    | (go_at_call 5; ((with_reducible refine C1.out.mono ?_); rintro e w1 ⟨A1, c1, rfl, s1, x1⟩; have S1 := Lib.hid s1; have X1 := Lib.hid x1; clear s1 x1))
    | (go_at_call 6; ((with_reducible refine (C2.out _).mono ?_); rintro e w2 ⟨A2, c2, rfl, s2, x2⟩; have S2 := Lib.hid s2; have X2 := Lib.hid x2; clear s2 x2))
    | (go_at_call 7; ((with_reducible refine (K1.out _).mono ?_); rintro e w' ⟨rfl, rfl⟩))
    | (go_at_call 8; ((with_reducible refine (K2.out _).mono ?_); rintro e w' ⟨rfl, rfl⟩)))
  have P1 := Lib.hid (show Pairs w2 A1 74 c1 pairsL from SlR.ext (keep_pair top) S1.out X2.out)
  have X3 := Lib.hid (X1.out.trans X2.out)
  clear C1 C2 S1 X1 X2
  go_loopw [28] (fun i wr => ∃ j : Nat, i = .int .i64 j ∧ j ≤ 74 ∧ Hid (Ext w2 wr)) (fun i _ => 74 - (intOf i).toNat)
  case atStart => exact ⟨0, rfl, by omega, Lib.hid (Ext.refl _)⟩
  case round =>
    obtain ⟨j, rfl, hj, HX⟩ := hrel
    by_cases hlt : j < 74
    · have gz : (j : Int) < 74 := by omega
      obtain ⟨p, hp⟩ : ∃ p, pairsL[j]? = some p := ⟨_, List.getElem?_eq_getElem (by rw [HL.out]; exact hlt)⟩
      obtain ⟨b1, o1, rfl, hbb1, a0, a1, a2⟩ := (show Pairs wr A1 74 c1 pairsL from SlR.ext (keep_pair top) P1.out HX.out).pair hp
      obtain ⟨b2, o2, rfl, hbb2, d0, d1, d2⟩ := (show Pairs wr A2 74 c2 pairsL from SlR.ext (keep_pair top) S2.out HX.out).pair hp
      clear hp
      go_wp2
      go_quiet (fail)
      go_wp2
      go_roundw
      case rel => exact ⟨j + 1, by go_num, by omega, Lib.hid (HX.out.drewN _)⟩
      case measure => simp [intOf]; omega
    · have gz : ¬ (j : Int) < 74 := by omega
      have Y0 := Lib.hid (X3.out.trans HX.out)
      go_wp2_with (first
        | (go_at_call 9; ((with_reducible refine (D1.out _ Y0.out).mono ?_); rintro e w3 ⟨⟨v3, rfl, o3⟩, x3⟩; obtain ⟨A3, c3, rfl, s3⟩ := o3.top; have S3 := Lib.hid s3; have Y3 := Lib.hid (Y0.out.trans x3); clear o3 s3 x3))
        | (go_at_call 10; ((with_reducible refine (D2.out _ Y3.out).mono ?_); rintro e w4 ⟨⟨v4, rfl, o4⟩, x4⟩; obtain ⟨A4, c4, rfl, s4⟩ := o4.top; have S4 := Lib.hid s4; have S3' := Lib.hid (Runes.ext S3.out x4); have Y4 := Lib.hid (Y3.out.trans x4); clear o4 s4 x4))
        | (go_at_call 11; ((with_reducible refine (Same_any _ _ _ _ _ _ VA VA _ S3'.out S4.out).mono ?_); rintro e w5 ⟨rfl, x5⟩; simp only [decide_true]; have Y5 := Lib.hid (Y4.out.trans x5); clear x5))
        | (go_at_call 12; ((with_reducible refine (D3.out _ Y5.out).mono ?_); rintro e w6 ⟨⟨v6, rfl, o6⟩, x6⟩; obtain ⟨A6, c6, rfl, s6⟩ := o6.top; have S6 := Lib.hid s6; have Y6 := Lib.hid (Y5.out.trans x6); clear o6 s6 x6))
        | (go_at_call 13; ((with_reducible refine (D4.out _ Y6.out).mono ?_); rintro e w7 ⟨⟨v7, rfl, o7⟩, x7⟩; obtain ⟨A7, c7, rfl, s7⟩ := o7.top; have S7 := Lib.hid s7; have S6' := Lib.hid (Runes.ext S6.out x7); have Y7 := Lib.hid (Y6.out.trans x7); clear o7 s7 x7))
        | (go_at_call 11; ((with_reducible refine (Same_any _ _ _ _ _ _ VT VT _ S6'.out S7.out).mono ?_); rintro e w8 ⟨rfl, x8⟩; simp only [decide_true]; have Y8 := Lib.hid (Y7.out.trans x8); clear x8))
        | (go_at_call 14; ((with_reducible refine (D5.out _ Y8.out).mono ?_); rintro e w9 ⟨⟨v9, rfl, o9⟩, x9⟩; obtain ⟨A9, c9, rfl, s9⟩ := o9.top; have S9 := Lib.hid s9; have Y9 := Lib.hid (Y8.out.trans x9); clear o9 s9 x9))
        | (go_at_call 15; ((with_reducible refine (D6.out _ Y9.out).mono ?_); rintro e w10 ⟨⟨v10, rfl, o10⟩, x10⟩; obtain ⟨A10, c10, rfl, s10⟩ := o10.top; have S10 := Lib.hid s10; have S9' := Lib.hid (Runes.ext S9.out x10); have Y10 := Lib.hid (Y9.out.trans x10); clear o10 s10 x10))
        | (go_at_call 11; ((with_reducible refine (Same_any _ _ _ _ _ _ VB VB _ S9'.out S10.out).mono ?_); rintro e w11 ⟨rfl, x11⟩; simp only [decide_true]; have Y11 := Lib.hid (Y10.out.trans x11); clear x11)))
      go_ret
      exact ⟨by simp, Y11.out⟩

end Go.Proofs.Ytbcmfebfcoedkaa
