/- Walk of the law OrderTells. -/
import Derived.Test.YtbcmfebfcoedkaaZ38
import Derived.Test.YtbcmfebfcoedkaaZ26
namespace Go.Proofs.Ytbcmfebfcoedkaa
open Go.RowKit
set_option linter.unusedVariables false
set_option linter.unusedSimpArgs false

set_option maxHeartbeats 400000 in
theorem SameI_any (A B : Option Addr) (n c n' d : Nat) (l m : List Int) (w : World) (hA : Ints w A n c l) (hB : Ints w B n' d m) (he : l = m) :
    Calls Try.prog 18 #[.slice A n c, .slice B n' d] w fun e w' => e = .returned (.bool true) ∧ Ext w w' := by
  subst he
  have hmA := hA.max; have hcA := hA.cap; unfold maxLen at hmA
  obtain rfl : n' = n := by rw [← hA.len, ← hB.len]
  have hn : ((n' : Int) != (n' : Int)) = false := by simp
  go_enter Try.func18, Try.ntmps18
  go_wp2
  go_loopw [13] (fun i wr => ∃ k : Nat, k ≤ n' ∧ i = .int .i64 k ∧ Ext w wr) (fun i _ => n' - (intOf i).toNat)
  case atStart => exact ⟨0, by omega, rfl, Ext.refl _⟩
  case round =>
    obtain ⟨k, hk, rfl, hx⟩ := hrel
    by_cases hlt : k < n'
    · have gz : (k : Int) < (n' : Int) := by omega
      obtain ⟨x, hxx⟩ := hA.idx hlt
      obtain ⟨b, off, rfl, _, hc, _⟩ := (hA.ext hx).int hxx
      obtain ⟨b2, off2, rfl, _, hc2, _⟩ := (hB.ext hx).int hxx
      have hne : (x != x) = false := by simp
      clear hxx
      go_wp2
      go_quiet (fail)
      go_wp2
      go_roundw
      case rel => exact ⟨k+1, by omega, by go_num, hx.drewN _⟩
      case measure => simp [intOf]; omega
    · have gz : ¬ (k : Int) < (n' : Int) := by omega
      go_wp2
      go_ret
      exact ⟨rfl, hx⟩

set_option maxRecDepth 1000000 in
set_option maxHeartbeats 8000000 in
theorem OrderTells_any (A : Option Addr) (n c : Nat) (a : List Int) (B : Option Addr) (n' c' : Nat) (b : List Int) (D : Option Addr) (m d : Nat) (l : List (List Int)) (w : World) (hA : Runes w A n c a) (hB : Runes w B n' c' b) (hD : Texts w D m d l) :
    Calls Try.prog 4 #[.slice A n c, .slice B n' c', .slice D m d] w fun e w' => e = .returned (.bool true) ∧ Ext w w' := by
  have C1 := Lib.hid (Key_any A n c a w hA)
  have C2 := Lib.hid (fun W (e : Ext w W) => refRows_any A n c a W (hA.ext e))
  have C3 := Lib.hid (fun W (e : Ext w W) => Compare_any A B n c n' c' a b W (hA.ext e) (hB.ext e))
  have C4 := Lib.hid (fun W (e : Ext w W) => refCompare_any A B n c n' c' a b W (hA.ext e) (hB.ext e))
  have C5 := Lib.hid (fun W (e : Ext w W) => Sort_any D m d l W (hD.ext e))
  have C6 := Lib.hid (fun W (e : Ext w W) => refSort_any D m d l W (hD.ext e))
  clear hA hB hD
  generalize apartE a = er at *
  generalize apartV a = V at *
  generalize cmpV a b = R at *
  generalize cmpE a b = ec at *
  generalize sortE l = es at *
  generalize sortA l = as' at *
  generalize sortV l = Z at *
  go_enter Try.func4, Try.ntmps4
  go_wp2_with (first
    | (go_at_call 16; ((with_reducible refine C1.out.mono ?_); rintro _ w1 ⟨⟨A1, p1, A2, p2, A3, p3, rfl, s1, s2, s3⟩, x1⟩; have S1 := Lib.hid s1; have S2 := Lib.hid s2; have S3 := Lib.hid s3; have X1 := Lib.hid x1; clear s1 s2 s3 x1))
    | (go_at_call 17; ((with_reducible refine (C2.out _ X1.out).mono ?_); rintro _ w2 ⟨⟨B1, q1, B2, q2, B3, q3, rfl, t1, t2, t3⟩, x2⟩; have e2 := x2.alloc (.cells #[.slice B1 (letO V).length q1, .slice B2 (marO V).length q2, .slice B3 (greO V).length q3] 37); have e3 := (Ext.refl w2).alloc (.cells #[.slice B1 (letO V).length q1, .slice B2 (marO V).length q2, .slice B3 (greO V).length q3] 37); have T1 := Lib.hid (t1.ext e3); have T2 := Lib.hid (t2.ext e3); have T3 := Lib.hid (t3.ext e3); have X3 := Lib.hid (X1.out.trans e2); have S1 := Lib.hid (S1.out.ext e2); have S2 := Lib.hid (S2.out.ext e2); have S3 := Lib.hid (S3.out.ext e2); have BB := Lib.hid (cellB_new w2 (.slice B1 (letO V).length q1) (.slice B2 (marO V).length q2) (.slice B3 (greO V).length q3) 37); clear t1 t2 t3 x2 e2 e3))
    | (go_at_call 18; ((with_reducible refine (SameI_any _ _ _ _ _ _ _ _ _ S1.out T1.out rfl).mono ?_); rintro _ w3 ⟨rfl, x3⟩; have X4 := Lib.hid (X3.out.trans x3); have k1 := (BB.out.ext x3).c1; have k2 := (BB.out.ext x3).c2; have S2' := Lib.hid (S2.out.ext x3); have T2' := Lib.hid (T2.out.ext x3); have S3' := Lib.hid (S3.out.ext x3); have T3' := Lib.hid (T3.out.ext x3); have BB' := Lib.hid (BB.out.ext x3); clear x3))
    | (go_at_call 18; ((with_reducible refine (SameI_any _ _ _ _ _ _ _ _ _ S2'.out T2'.out rfl).mono ?_); rintro _ w4 ⟨rfl, x3⟩; have X5 := Lib.hid (X4.out.trans x3); have m2 := (BB'.out.ext x3).c2; have S3'' := Lib.hid (S3'.out.ext x3); have T3'' := Lib.hid (T3'.out.ext x3); clear x3))
    | (go_at_call 18; ((with_reducible refine (SameI_any _ _ _ _ _ _ _ _ _ S3''.out T3''.out rfl).mono ?_); rintro _ w5 ⟨rfl, x3⟩; have X6 := Lib.hid (X5.out.trans x3); clear x3))
    | (go_at_call 19; ((with_reducible refine (C3.out _ X6.out).mono ?_); rintro _ w6 ⟨rfl, x3⟩; have X7 := Lib.hid (X6.out.trans x3); clear x3))
    | (go_at_call 20; ((with_reducible refine (C4.out _ X7.out).mono ?_); rintro _ w7 ⟨rfl, x3⟩; have X8 := Lib.hid (X7.out.trans x3); clear x3))
    | (go_at_call 21; ((with_reducible refine (C5.out _ X8.out).mono ?_); rintro _ w8 ⟨⟨A7, c7, rfl, s7⟩, x3⟩; have e7 := (Ext.refl w8).alloc (.cells #[.int .i64 es, .int .i64 as'] 44); have S7 := Lib.hid (s7.ext e7); have X9 := Lib.hid (X8.out.trans (x3.trans e7)); have FA := Lib.hid (cellF_new w8 (.int .i64 es) (.int .i64 as') 44); clear x3 s7 e7))
    | (go_at_call 22; ((with_reducible refine (C6.out _ X9.out).mono ?_); rintro _ w9 ⟨⟨A8, c8, rfl, s8⟩, x3⟩; have e8 := (Ext.refl w9).alloc (.cells #[.int .i64 es, .int .i64 as'] 44); have S8 := Lib.hid (s8.ext e8); have S7' := Lib.hid (S7.out.ext (x3.trans e8)); have X10 := Lib.hid (X9.out.trans (x3.trans e8)); have j0 := (FA.out.ext (x3.trans e8)).c0; have j1 := (FA.out.ext (x3.trans e8)).c1; clear x3 s8 e8))
    | (go_at_call 18; ((with_reducible refine (SameI_any _ _ _ _ _ _ _ _ _ S7'.out S8.out rfl).mono ?_); rintro _ w10 ⟨rfl, x3⟩; have X11 := Lib.hid (X10.out.trans x3); clear x3)))
  go_ret
  exact ⟨by simp, X11.out⟩

end Go.Proofs.Ytbcmfebfcoedkaa
