/- Walk of the law SetsAlgebra (printed by gen/gm10a.py). -/
import Derived.Test.YtfdkbhbnldcbmaaW37
namespace Go.Proofs.Ytfdkbhbnldcbmaa
open Go.RowKit
set_option linter.unusedVariables false
set_option linter.unusedSimpArgs false

theorem sets_three {w : World} {A B C : Option Addr} {n c m d k f : Nat} {x y z : List Sp} (t : TypeId) (h : Spans w A n c x) (k2 : Spans w B m d y) (k3 : Spans w C k f z) : Sets (w.alloc (.cells #[.slice A n c, .slice B m d, .slice C k f] t)) (some ⟨w.heap.size, 0, none⟩) 3 3 [x, y, z] :=
  SlR.fresh rfl (by unfold maxLen; omega) fun i u hu => by
    match i, hu with
    | 0, hu => cases hu; exact ⟨[.slice A n c], rfl, ⟨A, n, c, rfl, h.ext ((Ext.refl w).alloc _)⟩, fun j v hv => by match j, hv with | 0, hv => simpa using hv⟩
    | 1, hu => cases hu; exact ⟨[.slice B m d], rfl, ⟨B, m, d, rfl, k2.ext ((Ext.refl w).alloc _)⟩, fun j v hv => by match j, hv with | 0, hv => simpa using hv⟩
    | 2, hu => cases hu; exact ⟨[.slice C k f], rfl, ⟨C, k, f, rfl, k3.ext ((Ext.refl w).alloc _)⟩, fun j v hv => by match j, hv with | 0, hv => simpa using hv⟩

abbrev Op1 (f : Nat) (x r : List Sp) : Prop := Hid (∀ W A c, Spans W A x.length c x → Calls Try.prog f #[.slice A x.length c] W fun e w' => SetL r w' e ∧ Ext W w')
abbrev Op2 (f : Nat) (x y r : List Sp) : Prop := Hid (∀ W A c B d, Spans W A x.length c x → Spans W B y.length d y → Calls Try.prog f #[.slice A x.length c, .slice B y.length d] W fun e w' => SetL r w' e ∧ Ext W w')

set_option maxRecDepth 100000 in
set_option maxHeartbeats 16000000 in
theorem algebra_walk (Pa : Option Addr) (qa : Nat) (a : List Sp) (Pb : Option Addr) (qb : Nat) (b : List Sp) (Pc : Option Addr) (qc : Nat) (c : List Sp) (oab nab y1 obc y2 nbc y3 nac y4 oac y5 na nb z y6 : List Sp) (w : World)
    (ha : Spans w Pa a.length qa a) (hb : Spans w Pb b.length qb b) (hc : Spans w Pc c.length qc c) (hs : smallB [a, b, c] = true)
    (H_o_a_b : Op2 72 a b oab)
    (H_o_b_a : Op2 72 b a oab)
    (H_a_a_b : Op2 73 a b nab)
    (H_a_b_a : Op2 73 b a nab)
    (H_o_oab_c : Op2 72 oab c y1)
    (H_o_b_c : Op2 72 b c obc)
    (H_o_a_obc : Op2 72 a obc y1)
    (H_a_nab_c : Op2 73 nab c y2)
    (H_a_b_c : Op2 73 b c nbc)
    (H_a_a_nbc : Op2 73 a nbc y2)
    (H_a_a_obc : Op2 73 a obc y3)
    (H_a_a_c : Op2 73 a c nac)
    (H_o_nab_nac : Op2 72 nab nac y3)
    (H_o_a_nbc : Op2 72 a nbc y4)
    (H_o_a_c : Op2 72 a c oac)
    (H_a_oab_oac : Op2 73 oab oac y4)
    (H_n_oab : Op1 71 oab y5)
    (H_n_a : Op1 71 a na)
    (H_n_b : Op1 71 b nb)
    (H_a_na_nb : Op2 73 na nb y5)
    (H_n_na : Op1 71 na a)
    (H_o_a_a : Op2 72 a a a)
    (H_a_a_na : Op2 73 a na z)
    (H_a_a_nb : Op2 73 a nb y6)
    (Hz : Hid (∀ W A c, Spans W A z.length c z → Calls Try.prog 55 #[.slice A z.length c, .slice none 0 0] W fun e w' => e = .returned (.bool true) ∧ Ext W w'))
    (Hm : Hid (∀ W, Ext w W → Calls Try.prog 69 #[.slice Pa a.length qa, .slice Pb b.length qb] W fun e w' => (∃ A c, e = .returned (.tuple #[.slice A y6.length c, .int .i64 0]) ∧ Spans w' A y6.length c y6) ∧ Ext W w')) :
    Calls Try.prog 17 #[.slice Pa a.length qa, .slice Pb b.length qb, .slice Pc c.length qc] w fun e w' => e = .returned (.bool true) ∧ Ext w w' := by
  have C1 := Lib.hid (alive2_any w)
  have C2 := Lib.hid (fun W (e : Ext w W) => small_any _ 3 3 [a, b, c] _ (sets_three 67 (ha.ext e) (hb.ext e) (hc.ext e)) (by omega))
  rw [hs] at C2
  clear hs
  go_enter Try.func17, Try.ntmps17
  go_wp2_with (first
    | (go_at_call 52; refine C1.out.mono ?_; rintro e w1 ⟨rfl, y1'⟩; have e1 := Lib.hid y1'; have e1' := Lib.hid (y1'.alloc (.cells #[.slice Pa a.length qa, .slice Pb b.length qb, .slice Pc c.length qc] 67)); clear y1')
    | (go_at_call 70; refine (C2.out w1 e1.out).mono ?_; rintro e w2 ⟨rfl, y2'⟩; have e2 := Lib.hid (e1'.out.trans y2'); clear y2')
    | (go_at_call 69; refine (Hm.out w2 e2.out).mono ?_; rintro e w3 ⟨⟨A3, c3, rfl, t3⟩, y3'⟩; have smi := Lib.hid t3; have e3 := Lib.hid (e2.out.trans y3'); clear t3 y3')
    | (go_at_call 72; (with_reducible refine (H_o_a_b.out w3 _ _ _ _ (ha.ext e3.out) (hb.ext e3.out)).mono ?_); rintro e w4 ⟨⟨A4, c4, rfl, t4⟩, y4⟩; have x4 := Lib.hid y4; have e4 := Lib.hid (e3.out.trans y4); have s4 := Lib.hid t4; clear t4; clear y4)
    | (go_at_call 72; (with_reducible refine (H_o_b_a.out w4 _ _ _ _ (hb.ext e4.out) (ha.ext e4.out)).mono ?_); rintro e w5 ⟨⟨A5, c5, rfl, t5⟩, y5⟩; have x5 := Lib.hid y5; have e5 := Lib.hid (e4.out.trans y5); have s5 := Lib.hid t5; clear t5; clear y5)
    | (go_at_call 55; (with_reducible refine (Same2_any _ _ _ _ _ _ w5 (s4.out.ext (x5.out)) s5.out).mono ?_); rintro e w6 ⟨rfl, y6⟩; have x6 := Lib.hid y6; have e6 := Lib.hid (e5.out.trans y6); clear y6)
    | (go_at_call 73; (with_reducible refine (H_a_a_b.out w6 _ _ _ _ (ha.ext e6.out) (hb.ext e6.out)).mono ?_); rintro e w7 ⟨⟨A7, c7, rfl, t7⟩, y7⟩; have x7 := Lib.hid y7; have e7 := Lib.hid (e6.out.trans y7); have s7 := Lib.hid t7; clear t7; clear y7)
    | (go_at_call 73; (with_reducible refine (H_a_b_a.out w7 _ _ _ _ (hb.ext e7.out) (ha.ext e7.out)).mono ?_); rintro e w8 ⟨⟨A8, c8, rfl, t8⟩, y8⟩; have x8 := Lib.hid y8; have e8 := Lib.hid (e7.out.trans y8); have s8 := Lib.hid t8; clear t8; clear y8)
    | (go_at_call 55; (with_reducible refine (Same2_any _ _ _ _ _ _ w8 (s7.out.ext (x8.out)) s8.out).mono ?_); rintro e w9 ⟨rfl, y9⟩; have x9 := Lib.hid y9; have e9 := Lib.hid (e8.out.trans y9); clear y9)
    | (go_at_call 72; (with_reducible refine (H_o_a_b.out w9 _ _ _ _ (ha.ext e9.out) (hb.ext e9.out)).mono ?_); rintro e w10 ⟨⟨A10, c10, rfl, t10⟩, y10⟩; have x10 := Lib.hid y10; have e10 := Lib.hid (e9.out.trans y10); have s10 := Lib.hid t10; clear t10; clear y10)
    | (go_at_call 72; (with_reducible refine (H_o_oab_c.out w10 _ _ _ _ s10.out (hc.ext e10.out)).mono ?_); rintro e w11 ⟨⟨A11, c11, rfl, t11⟩, y11⟩; have x11 := Lib.hid y11; have e11 := Lib.hid (e10.out.trans y11); have s11 := Lib.hid t11; clear t11; clear y11)
    | (go_at_call 72; (with_reducible refine (H_o_b_c.out w11 _ _ _ _ (hb.ext e11.out) (hc.ext e11.out)).mono ?_); rintro e w12 ⟨⟨A12, c12, rfl, t12⟩, y12⟩; have x12 := Lib.hid y12; have e12 := Lib.hid (e11.out.trans y12); have s12 := Lib.hid t12; clear t12; clear y12)
    | (go_at_call 72; (with_reducible refine (H_o_a_obc.out w12 _ _ _ _ (ha.ext e12.out) s12.out).mono ?_); rintro e w13 ⟨⟨A13, c13, rfl, t13⟩, y13⟩; have x13 := Lib.hid y13; have e13 := Lib.hid (e12.out.trans y13); have s13 := Lib.hid t13; clear t13; clear y13)
    | (go_at_call 55; (with_reducible refine (Same2_any _ _ _ _ _ _ w13 (s11.out.ext ((x12.out).trans x13.out)) s13.out).mono ?_); rintro e w14 ⟨rfl, y14⟩; have x14 := Lib.hid y14; have e14 := Lib.hid (e13.out.trans y14); clear y14)
    | (go_at_call 73; (with_reducible refine (H_a_a_b.out w14 _ _ _ _ (ha.ext e14.out) (hb.ext e14.out)).mono ?_); rintro e w15 ⟨⟨A15, c15, rfl, t15⟩, y15⟩; have x15 := Lib.hid y15; have e15 := Lib.hid (e14.out.trans y15); have s15 := Lib.hid t15; clear t15; clear y15)
    | (go_at_call 73; (with_reducible refine (H_a_nab_c.out w15 _ _ _ _ s15.out (hc.ext e15.out)).mono ?_); rintro e w16 ⟨⟨A16, c16, rfl, t16⟩, y16⟩; have x16 := Lib.hid y16; have e16 := Lib.hid (e15.out.trans y16); have s16 := Lib.hid t16; clear t16; clear y16)
    | (go_at_call 73; (with_reducible refine (H_a_b_c.out w16 _ _ _ _ (hb.ext e16.out) (hc.ext e16.out)).mono ?_); rintro e w17 ⟨⟨A17, c17, rfl, t17⟩, y17⟩; have x17 := Lib.hid y17; have e17 := Lib.hid (e16.out.trans y17); have s17 := Lib.hid t17; clear t17; clear y17)
    | (go_at_call 73; (with_reducible refine (H_a_a_nbc.out w17 _ _ _ _ (ha.ext e17.out) s17.out).mono ?_); rintro e w18 ⟨⟨A18, c18, rfl, t18⟩, y18⟩; have x18 := Lib.hid y18; have e18 := Lib.hid (e17.out.trans y18); have s18 := Lib.hid t18; clear t18; clear y18)
    | (go_at_call 55; (with_reducible refine (Same2_any _ _ _ _ _ _ w18 (s16.out.ext ((x17.out).trans x18.out)) s18.out).mono ?_); rintro e w19 ⟨rfl, y19⟩; have x19 := Lib.hid y19; have e19 := Lib.hid (e18.out.trans y19); clear y19)
    | (go_at_call 72; (with_reducible refine (H_o_b_c.out w19 _ _ _ _ (hb.ext e19.out) (hc.ext e19.out)).mono ?_); rintro e w20 ⟨⟨A20, c20, rfl, t20⟩, y20⟩; have x20 := Lib.hid y20; have e20 := Lib.hid (e19.out.trans y20); have s20 := Lib.hid t20; clear t20; clear y20)
    | (go_at_call 73; (with_reducible refine (H_a_a_obc.out w20 _ _ _ _ (ha.ext e20.out) s20.out).mono ?_); rintro e w21 ⟨⟨A21, c21, rfl, t21⟩, y21⟩; have x21 := Lib.hid y21; have e21 := Lib.hid (e20.out.trans y21); have s21 := Lib.hid t21; clear t21; clear y21)
    | (go_at_call 73; (with_reducible refine (H_a_a_b.out w21 _ _ _ _ (ha.ext e21.out) (hb.ext e21.out)).mono ?_); rintro e w22 ⟨⟨A22, c22, rfl, t22⟩, y22⟩; have x22 := Lib.hid y22; have e22 := Lib.hid (e21.out.trans y22); have s22 := Lib.hid t22; clear t22; clear y22)
    | (go_at_call 73; (with_reducible refine (H_a_a_c.out w22 _ _ _ _ (ha.ext e22.out) (hc.ext e22.out)).mono ?_); rintro e w23 ⟨⟨A23, c23, rfl, t23⟩, y23⟩; have x23 := Lib.hid y23; have e23 := Lib.hid (e22.out.trans y23); have s23 := Lib.hid t23; clear t23; clear y23)
    | (go_at_call 72; (with_reducible refine (H_o_nab_nac.out w23 _ _ _ _ (s22.out.ext (x23.out)) s23.out).mono ?_); rintro e w24 ⟨⟨A24, c24, rfl, t24⟩, y24⟩; have x24 := Lib.hid y24; have e24 := Lib.hid (e23.out.trans y24); have s24 := Lib.hid t24; clear t24; clear y24)
    | (go_at_call 55; (with_reducible refine (Same2_any _ _ _ _ _ _ w24 (s21.out.ext (((x22.out).trans x23.out).trans x24.out)) s24.out).mono ?_); rintro e w25 ⟨rfl, y25⟩; have x25 := Lib.hid y25; have e25 := Lib.hid (e24.out.trans y25); clear y25)
    | (go_at_call 73; (with_reducible refine (H_a_b_c.out w25 _ _ _ _ (hb.ext e25.out) (hc.ext e25.out)).mono ?_); rintro e w26 ⟨⟨A26, c26, rfl, t26⟩, y26⟩; have x26 := Lib.hid y26; have e26 := Lib.hid (e25.out.trans y26); have s26 := Lib.hid t26; clear t26; clear y26)
    | (go_at_call 72; (with_reducible refine (H_o_a_nbc.out w26 _ _ _ _ (ha.ext e26.out) s26.out).mono ?_); rintro e w27 ⟨⟨A27, c27, rfl, t27⟩, y27⟩; have x27 := Lib.hid y27; have e27 := Lib.hid (e26.out.trans y27); have s27 := Lib.hid t27; clear t27; clear y27)
    | (go_at_call 72; (with_reducible refine (H_o_a_b.out w27 _ _ _ _ (ha.ext e27.out) (hb.ext e27.out)).mono ?_); rintro e w28 ⟨⟨A28, c28, rfl, t28⟩, y28⟩; have x28 := Lib.hid y28; have e28 := Lib.hid (e27.out.trans y28); have s28 := Lib.hid t28; clear t28; clear y28)
    | (go_at_call 72; (with_reducible refine (H_o_a_c.out w28 _ _ _ _ (ha.ext e28.out) (hc.ext e28.out)).mono ?_); rintro e w29 ⟨⟨A29, c29, rfl, t29⟩, y29⟩; have x29 := Lib.hid y29; have e29 := Lib.hid (e28.out.trans y29); have s29 := Lib.hid t29; clear t29; clear y29)
    | (go_at_call 73; (with_reducible refine (H_a_oab_oac.out w29 _ _ _ _ (s28.out.ext (x29.out)) s29.out).mono ?_); rintro e w30 ⟨⟨A30, c30, rfl, t30⟩, y30⟩; have x30 := Lib.hid y30; have e30 := Lib.hid (e29.out.trans y30); have s30 := Lib.hid t30; clear t30; clear y30)
    | (go_at_call 55; (with_reducible refine (Same2_any _ _ _ _ _ _ w30 (s27.out.ext (((x28.out).trans x29.out).trans x30.out)) s30.out).mono ?_); rintro e w31 ⟨rfl, y31⟩; have x31 := Lib.hid y31; have e31 := Lib.hid (e30.out.trans y31); clear y31)
    | (go_at_call 72; (with_reducible refine (H_o_a_b.out w31 _ _ _ _ (ha.ext e31.out) (hb.ext e31.out)).mono ?_); rintro e w32 ⟨⟨A32, c32, rfl, t32⟩, y32⟩; have x32 := Lib.hid y32; have e32 := Lib.hid (e31.out.trans y32); have s32 := Lib.hid t32; clear t32; clear y32)
    | (go_at_call 71; (with_reducible refine (H_n_oab.out w32 _ _ s32.out).mono ?_); rintro e w33 ⟨⟨A33, c33, rfl, t33⟩, y33⟩; have x33 := Lib.hid y33; have e33 := Lib.hid (e32.out.trans y33); have s33 := Lib.hid t33; clear t33; clear y33)
    | (go_at_call 71; (with_reducible refine (H_n_a.out w33 _ _ (ha.ext e33.out)).mono ?_); rintro e w34 ⟨⟨A34, c34, rfl, t34⟩, y34⟩; have x34 := Lib.hid y34; have e34 := Lib.hid (e33.out.trans y34); have s34 := Lib.hid t34; clear t34; clear y34)
    | (go_at_call 71; (with_reducible refine (H_n_b.out w34 _ _ (hb.ext e34.out)).mono ?_); rintro e w35 ⟨⟨A35, c35, rfl, t35⟩, y35⟩; have x35 := Lib.hid y35; have e35 := Lib.hid (e34.out.trans y35); have s35 := Lib.hid t35; clear t35; clear y35)
    | (go_at_call 73; (with_reducible refine (H_a_na_nb.out w35 _ _ _ _ (s34.out.ext (x35.out)) s35.out).mono ?_); rintro e w36 ⟨⟨A36, c36, rfl, t36⟩, y36⟩; have x36 := Lib.hid y36; have e36 := Lib.hid (e35.out.trans y36); have s36 := Lib.hid t36; clear t36; clear y36)
    | (go_at_call 55; (with_reducible refine (Same2_any _ _ _ _ _ _ w36 (s33.out.ext (((x34.out).trans x35.out).trans x36.out)) s36.out).mono ?_); rintro e w37 ⟨rfl, y37⟩; have x37 := Lib.hid y37; have e37 := Lib.hid (e36.out.trans y37); clear y37)
    | (go_at_call 71; (with_reducible refine (H_n_a.out w37 _ _ (ha.ext e37.out)).mono ?_); rintro e w38 ⟨⟨A38, c38, rfl, t38⟩, y38⟩; have x38 := Lib.hid y38; have e38 := Lib.hid (e37.out.trans y38); have s38 := Lib.hid t38; clear t38; clear y38)
    | (go_at_call 71; (with_reducible refine (H_n_na.out w38 _ _ s38.out).mono ?_); rintro e w39 ⟨⟨A39, c39, rfl, t39⟩, y39⟩; have x39 := Lib.hid y39; have e39 := Lib.hid (e38.out.trans y39); have s39 := Lib.hid t39; clear t39; clear y39)
    | (go_at_call 55; (with_reducible refine (Same2_any _ _ _ _ _ _ w39 s39.out (ha.ext e39.out)).mono ?_); rintro e w40 ⟨rfl, y40⟩; have x40 := Lib.hid y40; have e40 := Lib.hid (e39.out.trans y40); clear y40)
    | (go_at_call 72; (with_reducible refine (H_o_a_a.out w40 _ _ _ _ (ha.ext e40.out) (ha.ext e40.out)).mono ?_); rintro e w41 ⟨⟨A41, c41, rfl, t41⟩, y41⟩; have x41 := Lib.hid y41; have e41 := Lib.hid (e40.out.trans y41); have s41 := Lib.hid t41; clear t41; clear y41)
    | (go_at_call 55; (with_reducible refine (Same2_any _ _ _ _ _ _ w41 s41.out (ha.ext e41.out)).mono ?_); rintro e w42 ⟨rfl, y42⟩; have x42 := Lib.hid y42; have e42 := Lib.hid (e41.out.trans y42); clear y42)
    | (go_at_call 71; (with_reducible refine (H_n_a.out w42 _ _ (ha.ext e42.out)).mono ?_); rintro e w43 ⟨⟨A43, c43, rfl, t43⟩, y43⟩; have x43 := Lib.hid y43; have e43 := Lib.hid (e42.out.trans y43); have s43 := Lib.hid t43; clear t43; clear y43)
    | (go_at_call 73; (with_reducible refine (H_a_a_na.out w43 _ _ _ _ (ha.ext e43.out) s43.out).mono ?_); rintro e w44 ⟨⟨A44, c44, rfl, t44⟩, y44⟩; have x44 := Lib.hid y44; have e44 := Lib.hid (e43.out.trans y44); have s44 := Lib.hid t44; clear t44; clear y44)
    | (go_at_call 55; (with_reducible refine (Hz.out w44 _ _ s44.out).mono ?_); rintro e w45 ⟨rfl, y45⟩; have x45 := Lib.hid y45; have e45 := Lib.hid (e44.out.trans y45); clear y45)
    | (go_at_call 71; (with_reducible refine (H_n_b.out w45 _ _ (hb.ext e45.out)).mono ?_); rintro e w46 ⟨⟨A46, c46, rfl, t46⟩, y46⟩; have x46 := Lib.hid y46; have e46 := Lib.hid (e45.out.trans y46); have s46 := Lib.hid t46; clear t46; clear y46)
    | (go_at_call 73; (with_reducible refine (H_a_a_nb.out w46 _ _ _ _ (ha.ext e46.out) s46.out).mono ?_); rintro e w47 ⟨⟨A47, c47, rfl, t47⟩, y47⟩; have x47 := Lib.hid y47; have e47 := Lib.hid (e46.out.trans y47); have s47 := Lib.hid t47; clear t47; clear y47)
    | (go_at_call 55; (with_reducible refine (Same2_any _ _ _ _ _ _ w47 (smi.out.ext ((((((((((((((((((((((((((((((((((((((((((((x4.out).trans x5.out).trans x6.out).trans x7.out).trans x8.out).trans x9.out).trans x10.out).trans x11.out).trans x12.out).trans x13.out).trans x14.out).trans x15.out).trans x16.out).trans x17.out).trans x18.out).trans x19.out).trans x20.out).trans x21.out).trans x22.out).trans x23.out).trans x24.out).trans x25.out).trans x26.out).trans x27.out).trans x28.out).trans x29.out).trans x30.out).trans x31.out).trans x32.out).trans x33.out).trans x34.out).trans x35.out).trans x36.out).trans x37.out).trans x38.out).trans x39.out).trans x40.out).trans x41.out).trans x42.out).trans x43.out).trans x44.out).trans x45.out).trans x46.out).trans x47.out)) s47.out).mono ?_); rintro e w48 ⟨rfl, y48⟩; have x48 := Lib.hid y48; have e48 := Lib.hid (e47.out.trans y48); clear y48))
  go_ret
  exact ⟨rfl, e48.out⟩

end Go.Proofs.Ytfdkbhbnldcbmaa
