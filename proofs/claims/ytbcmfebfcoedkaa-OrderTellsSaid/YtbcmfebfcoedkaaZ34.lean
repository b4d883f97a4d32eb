/- Walk: order.Compare. -/
import Derived.Test.YtbcmfebfcoedkaaZ33
namespace Go.Proofs.Ytbcmfebfcoedkaa
open Go.RowKit
set_option linter.unusedVariables false
set_option linter.unusedSimpArgs false

/-! ### plain -/
def ord3 (V W : List Int) : Int := if ordI (letO V) (letO W) = 0 then (if ordI (marO V) (marO W) = 0 then ordI (greO V) (greO W) else ordI (marO V) (marO W)) else ordI (letO V) (letO W)
theorem cl3 : CL ord3 := (clI.on letO).lex ((clI.on marO).lex (clI.on greO))
def rest (L1 M1 L2 M2 L3 M3 : List Int) : Nat → Int
  | 0 => if ordI L1 M1 = 0 then (if ordI L2 M2 = 0 then ordI L3 M3 else ordI L2 M2) else ordI L1 M1
  | 1 => if ordI L2 M2 = 0 then ordI L3 M3 else ordI L2 M2
  | 2 => ordI L3 M3
  | _ => 0
def cmpE (a b : List Int) : Int := if apartE a = 0 then apartE b else apartE a
def cmpV (a b : List Int) : Int := if apartE a = 0 ∧ apartE b = 0 then ord3 (apartV a) (apartV b) else 0

set_option maxRecDepth 1000000 in
set_option maxHeartbeats 6400000 in
theorem Compare_any (A B : Option Addr) (n c n' d : Nat) (a b : List Int) (w : World) (hA : Runes w A n c a) (hB : Runes w B n' d b) :
    Calls Try.prog 19 #[.slice A n c, .slice B n' d] w fun e w' => e = .returned (.tuple #[.int .i64 (cmpV a b), .int .i64 (cmpE a b)]) ∧ Ext w w' := by
  have C1 := Lib.hid (Key_any A n c a w hA)
  by_cases ha : apartE a = 0
  · rw [ha] at C1
    have C2 := Lib.hid (fun W (e : Ext w W) => Key_any B n' d b W (hB.ext e))
    clear hA hB
    by_cases hb : apartE b = 0
    · have HV := Lib.hid (show cmpV a b = ord3 (apartV a) (apartV b) by simp [cmpV, ha, hb])
      have HE := Lib.hid (show cmpE a b = 0 by simp [cmpE, ha, hb])
      rw [HV.out, HE.out]
      obtain ⟨R, hR⟩ : ∃ R, R = ord3 (apartV a) (apartV b) := ⟨_, rfl⟩
      rw [← hR]
      have HR := Lib.hid (show rest (letO (apartV a)) (letO (apartV b)) (marO (apartV a)) (marO (apartV b)) (greO (apartV a)) (greO (apartV b)) 0 = R from hR.symm)
      have C2 := Lib.hid (fun W e => hb ▸ C2.out W e)
      clear ha hb hR HV HE
      generalize apartV a = V at *
      generalize apartV b = U at *
      go_enter Try.func19, Try.ntmps19
      go_upto_region 3 with (go_at_call 16; ((with_reducible refine C1.out.mono ?_); rintro _ w1 ⟨⟨A1, p1, A2, p2, A3, p3, rfl, s1, s2, s3⟩, x1⟩; have S1 := Lib.hid s1; have S2 := Lib.hid s2; have S3 := Lib.hid s3; have X1 := Lib.hid x1; clear s1 s2 s3 x1))
      go_upto_region 7 with (go_at_call 16; ((with_reducible refine (C2.out _ X1.out).mono ?_); rintro _ w2 ⟨⟨B1, q1, B2, q2, B3, q3, rfl, t1, t2, t3⟩, x2⟩; have T1 := Lib.hid t1; have T2 := Lib.hid t2; have T3 := Lib.hid t3; have X2 := Lib.hid (X1.out.trans x2); have S1 := Lib.hid (S1.out.ext x2); have S2 := Lib.hid (S2.out.ext x2); have S3 := Lib.hid (S3.out.ext x2); clear t1 t2 t3 x2))
      generalize letO V = L1 at *
      generalize marO V = L2 at *
      generalize greO V = L3 at *
      generalize letO U = M1 at *
      generalize marO U = M2 at *
      generalize greO U = M3 at *
      clear C1 C2 X1
      have e3 := (Ext.refl w2).alloc (.cells #[.slice A1 L1.length p1, .slice B1 M1.length q1, .slice A2 L2.length p2, .slice B2 M2.length q2, .slice A3 L3.length p3, .slice B3 M3.length q3] 68)
      have b0 := cell_new w2 #[.slice A1 L1.length p1, .slice B1 M1.length q1, .slice A2 L2.length p2, .slice B2 M2.length q2, .slice A3 L3.length p3, .slice B3 M3.length q3] 68 0 _ rfl
      have b1 := cell_new w2 #[.slice A1 L1.length p1, .slice B1 M1.length q1, .slice A2 L2.length p2, .slice B2 M2.length q2, .slice A3 L3.length p3, .slice B3 M3.length q3] 68 1 _ rfl
      have b2 := cell_new w2 #[.slice A1 L1.length p1, .slice B1 M1.length q1, .slice A2 L2.length p2, .slice B2 M2.length q2, .slice A3 L3.length p3, .slice B3 M3.length q3] 68 2 _ rfl
      have b3 := cell_new w2 #[.slice A1 L1.length p1, .slice B1 M1.length q1, .slice A2 L2.length p2, .slice B2 M2.length q2, .slice A3 L3.length p3, .slice B3 M3.length q3] 68 3 _ rfl
      have b4 := cell_new w2 #[.slice A1 L1.length p1, .slice B1 M1.length q1, .slice A2 L2.length p2, .slice B2 M2.length q2, .slice A3 L3.length p3, .slice B3 M3.length q3] 68 4 _ rfl
      have b5 := cell_new w2 #[.slice A1 L1.length p1, .slice B1 M1.length q1, .slice A2 L2.length p2, .slice B2 M2.length q2, .slice A3 L3.length p3, .slice B3 M3.length q3] 68 5 _ rfl
      have S1 := Lib.hid (S1.out.ext e3); have S2 := Lib.hid (S2.out.ext e3); have S3 := Lib.hid (S3.out.ext e3); have T1 := Lib.hid (T1.out.ext e3); have T2 := Lib.hid (T2.out.ext e3); have T3 := Lib.hid (T3.out.ext e3)
      have X3 := Lib.hid (X2.out.trans e3)
      have B0 := Lib.hid b0; have B1' := Lib.hid b1; have B2' := Lib.hid b2; have B3' := Lib.hid b3; have B4 := Lib.hid b4; have B5 := Lib.hid b5
      clear e3 b0 b1 b2 b3 b4 b5 X2
      go_wp2
      generalize w2.alloc (.cells #[.slice A1 L1.length p1, .slice B1 M1.length q1, .slice A2 L2.length p2, .slice B2 M2.length q2, .slice A3 L3.length p3, .slice B3 M3.length q3] 68) = w3 at *
      generalize w2.heap.size = H at *
      go_loopw [47] (fun i wr => ∃ k : Nat, i = .int .i64 k ∧ k ≤ 3 ∧ Hid (rest L1 M1 L2 M2 L3 M3 k = R) ∧ Ext w3 wr) (fun i _ => 3 - (intOf i).toNat)
      case atStart => exact ⟨0, rfl, by omega, HR, Ext.refl _⟩
      case round =>
        clear HR
        obtain ⟨k, rfl, hk, HR, hx⟩ := hrel
        match k, hk with
        | 0, _ =>
          have j0 := hx.cell B0.out; have j1 := hx.cell B1'.out
          have C := Lib.hid (fun W (e : Ext w3 W) => slCompare_any A1 B1 _ p1 _ q1 L1 M1 W (S1.out.ext e) (T1.out.ext e))
          have HX := Lib.hid (hx.alloc (.cells #[.slice A1 L1.length p1, .slice B1 M1.length q1] 68))
          clear S1 S2 S3 T1 T2 T3
          by_cases hd : ordI L1 M1 = 0
          · have HE := Lib.hid (show rest L1 M1 L2 M2 L3 M3 1 = R by rw [← HR.out]; simp [rest, hd])
            rw [hd] at C
            clear hd HR
            go_wp2_with (go_at_call 36; ((with_reducible refine (C.out _ HX.out).mono ?_); rintro e w' ⟨rfl, rfl⟩))
            go_roundw
            case rel => exact ⟨1, by go_num, by omega, HE, HX.out⟩
            case measure => simp [intOf]
          · have HE := Lib.hid (show ordI L1 M1 = R by rw [← HR.out]; simp [rest, hd])
            have hne : (ordI L1 M1 != 0) = true := by simpa using hd
            clear hd HR
            generalize ordI L1 M1 = u at *
            go_wp2_with (go_at_call 36; ((with_reducible refine (C.out _ HX.out).mono ?_); rintro e w' ⟨rfl, rfl⟩))
            go_ret2
            rw [HE.out]
            exact ⟨rfl, X3.out.trans HX.out⟩
        | 1, _ =>
          have j0 := hx.cell B2'.out; have j1 := hx.cell B3'.out
          have C := Lib.hid (fun W (e : Ext w3 W) => slCompare_any A2 B2 _ p2 _ q2 L2 M2 W (S2.out.ext e) (T2.out.ext e))
          have HX := Lib.hid (hx.alloc (.cells #[.slice A2 L2.length p2, .slice B2 M2.length q2] 68))
          clear S1 S2 S3 T1 T2 T3
          by_cases hd : ordI L2 M2 = 0
          · have HE := Lib.hid (show rest L1 M1 L2 M2 L3 M3 2 = R by rw [← HR.out]; simp [rest, hd])
            rw [hd] at C
            clear hd HR
            go_wp2_with (go_at_call 36; ((with_reducible refine (C.out _ HX.out).mono ?_); rintro e w' ⟨rfl, rfl⟩))
            go_roundw
            case rel => exact ⟨2, by go_num, by omega, HE, HX.out⟩
            case measure => simp [intOf]
          · have HE := Lib.hid (show ordI L2 M2 = R by rw [← HR.out]; simp [rest, hd])
            have hne : (ordI L2 M2 != 0) = true := by simpa using hd
            clear hd HR
            generalize ordI L2 M2 = u at *
            go_wp2_with (go_at_call 36; ((with_reducible refine (C.out _ HX.out).mono ?_); rintro e w' ⟨rfl, rfl⟩))
            go_ret2
            rw [HE.out]
            exact ⟨rfl, X3.out.trans HX.out⟩
        | 2, _ =>
          have j0 := hx.cell B4.out; have j1 := hx.cell B5.out
          have C := Lib.hid (fun W (e : Ext w3 W) => slCompare_any A3 B3 _ p3 _ q3 L3 M3 W (S3.out.ext e) (T3.out.ext e))
          have HX := Lib.hid (hx.alloc (.cells #[.slice A3 L3.length p3, .slice B3 M3.length q3] 68))
          clear S1 S2 S3 T1 T2 T3
          by_cases hd : ordI L3 M3 = 0
          · have HE := Lib.hid (show rest L1 M1 L2 M2 L3 M3 3 = R by rw [← HR.out]; simp [rest, hd])
            rw [hd] at C
            clear hd HR
            go_wp2_with (go_at_call 36; ((with_reducible refine (C.out _ HX.out).mono ?_); rintro e w' ⟨rfl, rfl⟩))
            go_roundw
            case rel => exact ⟨3, by go_num, by omega, HE, HX.out⟩
            case measure => simp [intOf]
          · have HE := Lib.hid (show ordI L3 M3 = R by rw [← HR.out]; simp [rest, hd])
            have hne : (ordI L3 M3 != 0) = true := by simpa using hd
            clear hd HR
            generalize ordI L3 M3 = u at *
            go_wp2_with (go_at_call 36; ((with_reducible refine (C.out _ HX.out).mono ?_); rintro e w' ⟨rfl, rfl⟩))
            go_ret2
            rw [HE.out]
            exact ⟨rfl, X3.out.trans HX.out⟩
        | 3, _ =>
          have HE := Lib.hid (show 0 = R from HR.out)
          clear HR
          go_wp2
          go_ret2
          rw [← HE.out]
          exact ⟨rfl, X3.out.trans hx⟩
    · have hn : (apartE b != 0) = true := by simpa using hb
      have HV := Lib.hid (show cmpV a b = 0 by simp [cmpV, hb])
      have HE := Lib.hid (show cmpE a b = apartE b by simp [cmpE, ha])
      rw [HV.out, HE.out]
      clear ha hb HV HE
      generalize apartE b = er at *
      go_enter Try.func19, Try.ntmps19
      go_upto_region 3 with (go_at_call 16; ((with_reducible refine C1.out.mono ?_); rintro _ w1 ⟨⟨A1, p1, A2, p2, A3, p3, rfl, s1, s2, s3⟩, x1⟩; have X1 := Lib.hid x1; clear s1 s2 s3 x1))
      go_wp2_with (go_at_call 16; ((with_reducible refine (C2.out _ X1.out).mono ?_); rintro _ w2 ⟨⟨B1, q1, B2, q2, B3, q3, rfl, t1, t2, t3⟩, x2⟩; have X2 := Lib.hid (X1.out.trans x2); clear t1 t2 t3 x2))
      go_ret2
      exact ⟨rfl, X2.out⟩
  · have hn : (apartE a != 0) = true := by simpa using ha
    have HV := Lib.hid (show cmpV a b = 0 by simp [cmpV, ha])
    have HE := Lib.hid (show cmpE a b = apartE a by simp [cmpE, ha])
    rw [HV.out, HE.out]
    clear ha HV HE hA hB
    generalize apartE a = er at *
    go_enter Try.func19, Try.ntmps19
    go_wp2_with (go_at_call 16; ((with_reducible refine C1.out.mono ?_); rintro _ w1 ⟨⟨A1, p1, A2, p2, A3, p3, rfl, s1, s2, s3⟩, x1⟩; have X1 := Lib.hid x1; clear s1 s2 s3 x1))
    go_ret2
    exact ⟨rfl, X1.out⟩


end Go.Proofs.Ytbcmfebfcoedkaa
