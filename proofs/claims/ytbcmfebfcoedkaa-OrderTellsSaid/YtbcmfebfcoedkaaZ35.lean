/- Walk: the document's Compare. -/
import Derived.Test.YtbcmfebfcoedkaaZ34
namespace Go.Proofs.Ytbcmfebfcoedkaa
open Go.RowKit
set_option linter.unusedVariables false
set_option linter.unusedSimpArgs false

theorem cellB_new (w : World) (a b c : Value) (t : TypeId) : CellB w.heap.size (w.alloc (.cells #[a, b, c] t)) a b c :=
  ⟨cell_new _ _ _ _ _ rfl, cell_new _ _ _ _ _ rfl, cell_new _ _ _ _ _ rfl, (Wr.new w #[a, b, c] t).2, by simp⟩

set_option maxRecDepth 1000000 in
set_option maxHeartbeats 6400000 in
theorem refCompare_any (A B : Option Addr) (n c n' d : Nat) (a b : List Int) (w : World) (hA : Runes w A n c a) (hB : Runes w B n' d b) :
    Calls Try.prog 20 #[.slice A n c, .slice B n' d] w fun e w' => e = .returned (.tuple #[.int .i64 (cmpV a b), .int .i64 (cmpE a b)]) ∧ Ext w w' := by
  have C1 := Lib.hid (refRows_any A n c a w hA)
  by_cases ha : apartE a = 0
  · rw [ha] at C1
    have C2 := Lib.hid (fun W (e : Ext w W) => refRows_any B n' d b W (hB.ext e))
    clear hA hB
    by_cases hb : apartE b = 0
    · have HV := Lib.hid (show cmpV a b = ord3 (apartV a) (apartV b) by simp [cmpV, ha, hb])
      have HE := Lib.hid (show cmpE a b = 0 by simp [cmpE, ha, hb])
      rw [HV.out, HE.out]
      obtain ⟨R, hR⟩ : ∃ R, R = ord3 (apartV a) (apartV b) := ⟨_, rfl⟩
      rw [← hR]
      have HR := Lib.hid (show rest (letO (apartV a)) (letO (apartV b)) (marO (apartV a)) (marO (apartV b)) (greO (apartV a)) (greO (apartV b)) 0 = R from hR.symm)
      have C2 := Lib.hid (fun W e => hb ▸ C2.out W e)
      clear ha hb hR HV HE
      generalize apartV a = V at *
      generalize apartV b = U at *
      go_enter Try.func20, Try.ntmps20
      go_upto_region 3 with (go_at_call 17; ((with_reducible refine C1.out.mono ?_); rintro _ w1 ⟨⟨A1, p1, A2, p2, A3, p3, rfl, s1, s2, s3⟩, x1⟩; have e1 := (Ext.refl w1).alloc (.cells #[.slice A1 (letO V).length p1, .slice A2 (marO V).length p2, .slice A3 (greO V).length p3] 37); have S1 := Lib.hid (s1.ext e1); have S2 := Lib.hid (s2.ext e1); have S3 := Lib.hid (s3.ext e1); have X1 := Lib.hid (x1.trans e1); have BA := Lib.hid (cellB_new w1 (.slice A1 (letO V).length p1) (.slice A2 (marO V).length p2) (.slice A3 (greO V).length p3) 37); clear s1 s2 s3 x1 e1))
      generalize w1.alloc (.cells #[.slice A1 (letO V).length p1, .slice A2 (marO V).length p2, .slice A3 (greO V).length p3] 37) = w2 at *
      generalize w1.heap.size = H at *
      go_upto_region 7 with (go_at_call 17; ((with_reducible refine (C2.out _ X1.out).mono ?_); rintro _ w3 ⟨⟨B1, q1, B2, q2, B3, q3, rfl, t1, t2, t3⟩, x2⟩; have e2 := x2.alloc (.cells #[.slice B1 (letO U).length q1, .slice B2 (marO U).length q2, .slice B3 (greO U).length q3] 37); have e3 := (Ext.refl w3).alloc (.cells #[.slice B1 (letO U).length q1, .slice B2 (marO U).length q2, .slice B3 (greO U).length q3] 37); have T1 := Lib.hid (t1.ext e3); have T2 := Lib.hid (t2.ext e3); have T3 := Lib.hid (t3.ext e3); have X4 := Lib.hid (X1.out.trans e2); have S1 := Lib.hid (S1.out.ext e2); have S2 := Lib.hid (S2.out.ext e2); have S3 := Lib.hid (S3.out.ext e2); have BA := Lib.hid (BA.out.ext e2); have BB := Lib.hid (cellB_new w3 (.slice B1 (letO U).length q1) (.slice B2 (marO U).length q2) (.slice B3 (greO U).length q3) 37); clear t1 t2 t3 x2 e2 e3))
      generalize w3.alloc (.cells #[.slice B1 (letO U).length q1, .slice B2 (marO U).length q2, .slice B3 (greO U).length q3] 37) = w4 at *
      generalize w3.heap.size = H2 at *
      generalize letO V = L1 at *
      generalize marO V = L2 at *
      generalize greO V = L3 at *
      generalize letO U = M1 at *
      generalize marO U = M2 at *
      generalize greO U = M3 at *
      clear C1 C2 X1
      go_wp2
      go_loopw [9] (fun i wr => ∃ k : Nat, i = .int .i64 k ∧ k ≤ 3 ∧ Hid (rest L1 M1 L2 M2 L3 M3 k = R) ∧ Ext w4 wr) (fun i _ => 3 - (intOf i).toNat)
      case atStart => exact ⟨0, rfl, by omega, HR, Ext.refl _⟩
      case round =>
        clear HR
        obtain ⟨k, rfl, hk, HR, hx⟩ := hrel
        match k, hk with
        | 0, _ =>
          have j0 := fun p : Far wr => (hx.trans p.ext).cell BA.out.c0
          have j1 := fun p : Far wr => (hx.trans p.ext).cell BB.out.c0
          have C := fun p : Far wr => Order_any A1 B1 _ p1 _ q1 L1 M1 p.out (S1.out.ext (hx.trans p.ext)) (T1.out.ext (hx.trans p.ext))
          clear S1 S2 S3 T1 T2 T3 BA BB
          by_cases hd : ordI L1 M1 = 0
          · have HE := Lib.hid (show rest L1 M1 L2 M2 L3 M3 1 = R by rw [← HR.out]; simp [rest, hd])
            simp only [hd] at C
            clear hd HR
            go_wp2
            refine wp_region_far (by kernel_rfl) (by kernel_rfl) ?_
            repeat (quiet_step (first | (go_at_call 37; refine Calls.far_of (C _))))
            refine wpQuiet_nil ?_
            intro w5 hw'
            obtain ⟨pf, hw5⟩ := hw'
            have hx2 : Ext w4 w5 := by rw [hw5]; exact hx.trans pf.ext
            clear hw5 pf j0 j1 C hx
            go_wp2
            go_roundw
            case rel => exact ⟨1, by go_num, by omega, HE, hx2⟩
            case measure => simp [intOf]
          · have HE := Lib.hid (show ordI L1 M1 = R by rw [← HR.out]; simp [rest, hd])
            have hne : (ordI L1 M1 != 0) = true := by simpa using hd
            clear hd HR
            generalize ordI L1 M1 = u at *
            go_wp2
            refine wp_region_far (by kernel_rfl) (by kernel_rfl) ?_
            repeat (quiet_step (first | (go_at_call 37; refine Calls.far_of (C _))))
            refine wpQuiet_nil ?_
            intro w5 hw'
            obtain ⟨pf, hw5⟩ := hw'
            have hx2 : Ext w4 w5 := by rw [hw5]; exact hx.trans pf.ext
            clear hw5 pf j0 j1 C hx
            go_wp2
            go_ret2
            rw [HE.out]
            exact ⟨rfl, X4.out.trans hx2⟩
        | 1, _ =>
          have j0 := fun p : Far wr => (hx.trans p.ext).cell BA.out.c1
          have j1 := fun p : Far wr => (hx.trans p.ext).cell BB.out.c1
          have C := fun p : Far wr => Order_any A2 B2 _ p2 _ q2 L2 M2 p.out (S2.out.ext (hx.trans p.ext)) (T2.out.ext (hx.trans p.ext))
          clear S1 S2 S3 T1 T2 T3 BA BB
          by_cases hd : ordI L2 M2 = 0
          · have HE := Lib.hid (show rest L1 M1 L2 M2 L3 M3 2 = R by rw [← HR.out]; simp [rest, hd])
            simp only [hd] at C
            clear hd HR
            go_wp2
            refine wp_region_far (by kernel_rfl) (by kernel_rfl) ?_
            repeat (quiet_step (first | (go_at_call 37; refine Calls.far_of (C _))))
            refine wpQuiet_nil ?_
            intro w5 hw'
            obtain ⟨pf, hw5⟩ := hw'
            have hx2 : Ext w4 w5 := by rw [hw5]; exact hx.trans pf.ext
            clear hw5 pf j0 j1 C hx
            go_wp2
            go_roundw
            case rel => exact ⟨2, by go_num, by omega, HE, hx2⟩
            case measure => simp [intOf]
          · have HE := Lib.hid (show ordI L2 M2 = R by rw [← HR.out]; simp [rest, hd])
            have hne : (ordI L2 M2 != 0) = true := by simpa using hd
            clear hd HR
            generalize ordI L2 M2 = u at *
            go_wp2
            refine wp_region_far (by kernel_rfl) (by kernel_rfl) ?_
            repeat (quiet_step (first | (go_at_call 37; refine Calls.far_of (C _))))
            refine wpQuiet_nil ?_
            intro w5 hw'
            obtain ⟨pf, hw5⟩ := hw'
            have hx2 : Ext w4 w5 := by rw [hw5]; exact hx.trans pf.ext
            clear hw5 pf j0 j1 C hx
            go_wp2
            go_ret2
            rw [HE.out]
            exact ⟨rfl, X4.out.trans hx2⟩
        | 2, _ =>
          have j0 := fun p : Far wr => (hx.trans p.ext).cell BA.out.c2
          have j1 := fun p : Far wr => (hx.trans p.ext).cell BB.out.c2
          have C := fun p : Far wr => Order_any A3 B3 _ p3 _ q3 L3 M3 p.out (S3.out.ext (hx.trans p.ext)) (T3.out.ext (hx.trans p.ext))
          clear S1 S2 S3 T1 T2 T3 BA BB
          by_cases hd : ordI L3 M3 = 0
          · have HE := Lib.hid (show rest L1 M1 L2 M2 L3 M3 3 = R by rw [← HR.out]; simp [rest, hd])
            simp only [hd] at C
            clear hd HR
            go_wp2
            refine wp_region_far (by kernel_rfl) (by kernel_rfl) ?_
            repeat (quiet_step (first | (go_at_call 37; refine Calls.far_of (C _))))
            refine wpQuiet_nil ?_
            intro w5 hw'
            obtain ⟨pf, hw5⟩ := hw'
            have hx2 : Ext w4 w5 := by rw [hw5]; exact hx.trans pf.ext
            clear hw5 pf j0 j1 C hx
            go_wp2
            go_roundw
            case rel => exact ⟨3, by go_num, by omega, HE, hx2⟩
            case measure => simp [intOf]
          · have HE := Lib.hid (show ordI L3 M3 = R by rw [← HR.out]; simp [rest, hd])
            have hne : (ordI L3 M3 != 0) = true := by simpa using hd
            clear hd HR
            generalize ordI L3 M3 = u at *
            go_wp2
            refine wp_region_far (by kernel_rfl) (by kernel_rfl) ?_
            repeat (quiet_step (first | (go_at_call 37; refine Calls.far_of (C _))))
            refine wpQuiet_nil ?_
            intro w5 hw'
            obtain ⟨pf, hw5⟩ := hw'
            have hx2 : Ext w4 w5 := by rw [hw5]; exact hx.trans pf.ext
            clear hw5 pf j0 j1 C hx
            go_wp2
            go_ret2
            rw [HE.out]
            exact ⟨rfl, X4.out.trans hx2⟩
        | 3, _ =>
          have HE := Lib.hid (show 0 = R from HR.out)
          clear HR
          go_wp2
          go_ret2
          rw [← HE.out]
          exact ⟨rfl, X4.out.trans hx⟩
    · have hn : (apartE b != 0) = true := by simpa using hb
      have HV := Lib.hid (show cmpV a b = 0 by simp [cmpV, hb])
      have HE := Lib.hid (show cmpE a b = apartE b by simp [cmpE, ha])
      rw [HV.out, HE.out]
      clear ha hb HV HE
      generalize apartE b = er at *
      go_enter Try.func20, Try.ntmps20
      go_upto_region 3 with (go_at_call 17; ((with_reducible refine C1.out.mono ?_); rintro _ w1 ⟨⟨A1, p1, A2, p2, A3, p3, rfl, s1, s2, s3⟩, x1⟩; have X1 := Lib.hid (x1.alloc (.cells #[.slice A1 (letO (apartV a)).length p1, .slice A2 (marO (apartV a)).length p2, .slice A3 (greO (apartV a)).length p3] 37)); clear s1 s2 s3 x1))
      go_wp2_with (go_at_call 17; ((with_reducible refine (C2.out _ X1.out).mono ?_); rintro _ w2 ⟨⟨B1, q1, B2, q2, B3, q3, rfl, t1, t2, t3⟩, x2⟩; have X2 := Lib.hid (X1.out.trans x2); clear t1 t2 t3 x2))
      go_ret2
      exact ⟨rfl, X2.out.alloc _⟩
  · have hn : (apartE a != 0) = true := by simpa using ha
    have HV := Lib.hid (show cmpV a b = 0 by simp [cmpV, ha])
    have HE := Lib.hid (show cmpE a b = apartE a by simp [cmpE, ha])
    rw [HV.out, HE.out]
    clear ha HV HE hA hB
    generalize apartE a = er at *
    go_enter Try.func20, Try.ntmps20
    go_wp2_with (go_at_call 17; ((with_reducible refine C1.out.mono ?_); rintro _ w1 ⟨⟨A1, p1, A2, p2, A3, p3, rfl, s1, s2, s3⟩, x1⟩; have X1 := Lib.hid x1; clear s1 s2 s3 x1))
    go_ret2
    exact ⟨rfl, X1.out.alloc _⟩

end Go.Proofs.Ytbcmfebfcoedkaa
