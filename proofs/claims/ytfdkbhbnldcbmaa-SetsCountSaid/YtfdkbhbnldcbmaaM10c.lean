/- Walks of the law SetsCount over abstract sets (printed by gen/gm10c.py). -/
import Derived.Test.YtfdkbhbnldcbmaaM10b
import Derived.Test.YtfdkbhbnldcbmaaPl3
import Derived.Test.YtfdkbhbnldcbmaaW18
namespace Go.Proofs.Ytfdkbhbnldcbmaa
open Go.RowKit
set_option linter.unusedVariables false
set_option linter.unusedSimpArgs false
abbrev Res (f : Nat) (args : Array Value) (W : World) (r : List Sp) : Prop := Calls Try.prog f args W fun e w' => (∃ A c, e = .returned (.tuple #[.slice A r.length c, .int .i64 0]) ∧ Spans w' A r.length c r) ∧ Ext W w'
abbrev CntH (l : List Sp) (z : Int) : Prop := Hid (∀ W A c, Spans W A l.length c l → Calls Try.prog 58 #[.slice A l.length c] W fun e w' => e = .returned (.tuple #[.int .i64 z, .int .i64 0]) ∧ Ext W w')
set_option maxRecDepth 100000 in
set_option maxHeartbeats 40000000 in
theorem count_neg (Pa : Option Addr) (qa : Nat) (a : List Sp) (Pb : Option Addr) (qb : Nat) (b : List Sp) (n u m : List Sp) (za zb zn zu zm : Int) (q : Bool) (k r : Int) (er : Int) (w : World)
    (ha : Spans w Pa a.length qa a) (hb : Spans w Pb b.length qb b) (hs : smallB [a, b] = true)
    (HN : Hid (∀ W, Ext w W → Res 65 #[.slice Pa a.length qa] W n))
    (HU : Hid (∀ W, Ext w W → Res 67 #[.slice Pa a.length qa, .slice Pb b.length qb] W u))
    (HM : Hid (∀ W, Ext w W → Res 68 #[.slice Pa a.length qa, .slice Pb b.length qb] W m))
    (Hca : CntH a za) (Hcb : CntH b zb) (Hcn : CntH n zn) (Hcu : CntH u zu) (Hcm : CntH m zm)
    (HS : Hid (∀ W, Ext w W → Calls Try.prog 63 #[.slice Pa a.length qa, .slice Pb b.length qb] W fun e w' => e = .returned (.bool q) ∧ Ext W w'))
    (HT : Hid (∀ W, Ext w W → Calls Try.prog 60 #[.slice Pa a.length qa, .int .i64 k] W fun e w' => e = .returned (.tuple #[.int .i32 r, .int .i64 er]) ∧ Ext W w'))
    (t1 : (za + zn != 1114112) = false) (t2 : (zu + zm != za + zb) = false) (hq : (zm == za) = q)
    (u1 : IntKind.i64.wrap (za + zn) = za + zn) (u2 : IntKind.i64.wrap (zu + zm) = zu + zm) (u3 : IntKind.i64.wrap (za + zb) = za + zb)
    (b1 : decide (k < 0) = true) (b2 : (er != 0) = true) (b3 : (r == 0) = true) :
    Calls Try.prog 18 #[.slice Pa a.length qa, .slice Pb b.length qb, .int .i64 k] w fun e w' => e = .returned (.bool true) ∧ Ext w w' := by
  have C1 := Lib.hid (alive2_any w)
  have C2 := Lib.hid (fun W (e : Ext w W) => small_any _ 2 2 [a, b] _ (sets_two 67 (ha.ext e) (hb.ext e)) (by omega))
  rw [hs] at C2
  clear hs
  have t3 : (q != q) = false := by simp
  go_enter Try.func18, Try.ntmps18
  go_wp2_with (first
      | (go_at_call 52; refine C1.out.mono ?_; rintro e w1 ⟨rfl, y1⟩; have e1 := Lib.hid y1; have e1' := Lib.hid (y1.alloc (.cells #[.slice Pa a.length qa, .slice Pb b.length qb] 67)); clear y1)
      | (go_at_call 70; refine (C2.out w1 e1.out).mono ?_; rintro e w2 ⟨rfl, y2⟩; have e2 := Lib.hid (e1'.out.trans y2); clear y2 C1 C2)
      | (go_at_call 65; refine (HN.out w2 e2.out).mono ?_; rintro e w3 ⟨⟨A3, c3, rfl, t3'⟩, y3⟩; have s3 := Lib.hid t3'; have e3 := Lib.hid (e2.out.trans y3); clear t3' y3)
      | (go_at_call 67; refine (HU.out w3 e3.out).mono ?_; rintro e w4 ⟨⟨A4, c4, rfl, t4'⟩, y4⟩; have s4 := Lib.hid t4'; have x4 := Lib.hid y4; have e4 := Lib.hid (e3.out.trans y4); clear t4' y4)
      | (go_at_call 68; (with_reducible refine (HM.out w4 e4.out).mono ?_); rintro e w5 ⟨⟨A5, c5, rfl, t5'⟩, y5⟩; have s5 := Lib.hid t5'; have x5 := Lib.hid y5; have e5 := Lib.hid (e4.out.trans y5); clear t5' y5)
      | (go_at_call 58; (with_reducible refine (Hca.out w5 _ _ (ha.ext e5.out)).mono ?_); rintro e w6 ⟨rfl, y6⟩; have x6 := Lib.hid y6; have e6 := Lib.hid (e5.out.trans y6); clear y6)
      | (go_at_call 58; (with_reducible refine (Hcb.out w6 _ _ (hb.ext e6.out)).mono ?_); rintro e w7 ⟨rfl, y7⟩; have x7 := Lib.hid y7; have e7 := Lib.hid (e6.out.trans y7); clear y7)
      | (go_at_call 58; (with_reducible refine (Hcn.out w7 _ _ (s3.out.ext (((x4.out.trans x5.out).trans x6.out).trans x7.out))).mono ?_); rintro e w8 ⟨rfl, y8⟩; have x8 := Lib.hid y8; have e8 := Lib.hid (e7.out.trans y8); clear y8)
      | (go_at_call 58; (with_reducible refine (Hcu.out w8 _ _ (s4.out.ext (((x5.out.trans x6.out).trans x7.out).trans x8.out))).mono ?_); rintro e w9 ⟨rfl, y9⟩; have x9 := Lib.hid y9; have e9 := Lib.hid (e8.out.trans y9); clear y9)
      | (go_at_call 58; (with_reducible refine (Hcm.out w9 _ _ (s5.out.ext (((x6.out.trans x7.out).trans x8.out).trans x9.out))).mono ?_); rintro e w10 ⟨rfl, y10⟩; have e10 := Lib.hid (e9.out.trans y10); clear y10 e1 e2 e3 e4 e5 e6 e7 e8 e9 x4 x5 x6 x7 x8 x9 s3 s4 s5)
      | (go_at_call 63; refine (HS.out w10 e10.out).mono ?_; rintro e w11 ⟨rfl, y11⟩; have e11 := Lib.hid (e10.out.trans y11); clear y11)
      | (go_at_call 60; refine (HT.out w11 e11.out).mono ?_; rintro e w12 ⟨rfl, y12⟩; have e12 := Lib.hid (e11.out.trans y12); clear y12))
  go_ret
  exact ⟨rfl, e12.out⟩
set_option maxRecDepth 100000 in
set_option maxHeartbeats 40000000 in
theorem count_out (Pa : Option Addr) (qa : Nat) (a : List Sp) (Pb : Option Addr) (qb : Nat) (b : List Sp) (n u m : List Sp) (za zb zn zu zm : Int) (q : Bool) (k r : Int) (er : Int) (w : World)
    (ha : Spans w Pa a.length qa a) (hb : Spans w Pb b.length qb b) (hs : smallB [a, b] = true)
    (HN : Hid (∀ W, Ext w W → Res 65 #[.slice Pa a.length qa] W n))
    (HU : Hid (∀ W, Ext w W → Res 67 #[.slice Pa a.length qa, .slice Pb b.length qb] W u))
    (HM : Hid (∀ W, Ext w W → Res 68 #[.slice Pa a.length qa, .slice Pb b.length qb] W m))
    (Hca : CntH a za) (Hcb : CntH b zb) (Hcn : CntH n zn) (Hcu : CntH u zu) (Hcm : CntH m zm)
    (HS : Hid (∀ W, Ext w W → Calls Try.prog 63 #[.slice Pa a.length qa, .slice Pb b.length qb] W fun e w' => e = .returned (.bool q) ∧ Ext W w'))
    (HT : Hid (∀ W, Ext w W → Calls Try.prog 60 #[.slice Pa a.length qa, .int .i64 k] W fun e w' => e = .returned (.tuple #[.int .i32 r, .int .i64 er]) ∧ Ext W w'))
    (t1 : (za + zn != 1114112) = false) (t2 : (zu + zm != za + zb) = false) (hq : (zm == za) = q)
    (u1 : IntKind.i64.wrap (za + zn) = za + zn) (u2 : IntKind.i64.wrap (zu + zm) = zu + zm) (u3 : IntKind.i64.wrap (za + zb) = za + zb)
    (b0 : decide (k < 0) = false) (b1 : decide (za ≤ k) = true) (b2 : (er != 0) = true) (b3 : (r == 0) = true) :
    Calls Try.prog 18 #[.slice Pa a.length qa, .slice Pb b.length qb, .int .i64 k] w fun e w' => e = .returned (.bool true) ∧ Ext w w' := by
  have C1 := Lib.hid (alive2_any w)
  have C2 := Lib.hid (fun W (e : Ext w W) => small_any _ 2 2 [a, b] _ (sets_two 67 (ha.ext e) (hb.ext e)) (by omega))
  rw [hs] at C2
  clear hs
  have t3 : (q != q) = false := by simp
  go_enter Try.func18, Try.ntmps18
  go_wp2_with (first
      | (go_at_call 52; refine C1.out.mono ?_; rintro e w1 ⟨rfl, y1⟩; have e1 := Lib.hid y1; have e1' := Lib.hid (y1.alloc (.cells #[.slice Pa a.length qa, .slice Pb b.length qb] 67)); clear y1)
      | (go_at_call 70; refine (C2.out w1 e1.out).mono ?_; rintro e w2 ⟨rfl, y2⟩; have e2 := Lib.hid (e1'.out.trans y2); clear y2 C1 C2)
      | (go_at_call 65; refine (HN.out w2 e2.out).mono ?_; rintro e w3 ⟨⟨A3, c3, rfl, t3'⟩, y3⟩; have s3 := Lib.hid t3'; have e3 := Lib.hid (e2.out.trans y3); clear t3' y3)
      | (go_at_call 67; refine (HU.out w3 e3.out).mono ?_; rintro e w4 ⟨⟨A4, c4, rfl, t4'⟩, y4⟩; have s4 := Lib.hid t4'; have x4 := Lib.hid y4; have e4 := Lib.hid (e3.out.trans y4); clear t4' y4)
      | (go_at_call 68; (with_reducible refine (HM.out w4 e4.out).mono ?_); rintro e w5 ⟨⟨A5, c5, rfl, t5'⟩, y5⟩; have s5 := Lib.hid t5'; have x5 := Lib.hid y5; have e5 := Lib.hid (e4.out.trans y5); clear t5' y5)
      | (go_at_call 58; (with_reducible refine (Hca.out w5 _ _ (ha.ext e5.out)).mono ?_); rintro e w6 ⟨rfl, y6⟩; have x6 := Lib.hid y6; have e6 := Lib.hid (e5.out.trans y6); clear y6)
      | (go_at_call 58; (with_reducible refine (Hcb.out w6 _ _ (hb.ext e6.out)).mono ?_); rintro e w7 ⟨rfl, y7⟩; have x7 := Lib.hid y7; have e7 := Lib.hid (e6.out.trans y7); clear y7)
      | (go_at_call 58; (with_reducible refine (Hcn.out w7 _ _ (s3.out.ext (((x4.out.trans x5.out).trans x6.out).trans x7.out))).mono ?_); rintro e w8 ⟨rfl, y8⟩; have x8 := Lib.hid y8; have e8 := Lib.hid (e7.out.trans y8); clear y8)
      | (go_at_call 58; (with_reducible refine (Hcu.out w8 _ _ (s4.out.ext (((x5.out.trans x6.out).trans x7.out).trans x8.out))).mono ?_); rintro e w9 ⟨rfl, y9⟩; have x9 := Lib.hid y9; have e9 := Lib.hid (e8.out.trans y9); clear y9)
      | (go_at_call 58; (with_reducible refine (Hcm.out w9 _ _ (s5.out.ext (((x6.out.trans x7.out).trans x8.out).trans x9.out))).mono ?_); rintro e w10 ⟨rfl, y10⟩; have e10 := Lib.hid (e9.out.trans y10); clear y10 e1 e2 e3 e4 e5 e6 e7 e8 e9 x4 x5 x6 x7 x8 x9 s3 s4 s5)
      | (go_at_call 63; refine (HS.out w10 e10.out).mono ?_; rintro e w11 ⟨rfl, y11⟩; have e11 := Lib.hid (e10.out.trans y11); clear y11)
      | (go_at_call 60; refine (HT.out w11 e11.out).mono ?_; rintro e w12 ⟨rfl, y12⟩; have e12 := Lib.hid (e11.out.trans y12); clear y12))
  go_ret
  exact ⟨rfl, e12.out⟩

end Go.Proofs.Ytfdkbhbnldcbmaa
