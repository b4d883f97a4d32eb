/- Walk of the law SetsTell (printed by gen/gm11.py). -/
import Derived.Test.YtfdkbhbnldcbmaaW37
import Derived.Test.YtfdkbhbnldcbmaaW18
import Derived.Test.YtfdkbhbnldcbmaaW43
import Derived.Test.YtfdkbhbnldcbmaaW44
namespace Go.Proofs.Ytfdkbhbnldcbmaa
open Go.RowKit
set_option linter.unusedVariables false
set_option linter.unusedSimpArgs false

set_option maxRecDepth 100000 in
set_option maxHeartbeats 16000000 in
theorem SetsTell_any (A : Option Addr) (n c : Nat) (l : List Sp) (B : Option Addr) (m d : Nat) (b : List Sp) (r k : Int) (w : World) (hA : Spans w A n c l) (hB : Spans w B m d b) (hn : n * 8 ≤ 140737488351232) (hr : i32 r) (hk : i64 k) :
    Calls Try.prog 15 #[.slice A n c, .slice B m d, .int .i32 r, .int .i64 k] w fun e w' => e = .returned (.bool true) ∧ Ext w w' := by
  have C1 := Lib.hid (setsWrong_any A n c l w hA)
  have CW := Lib.hid (fun W (e : Ext w W) => refSetWrong_any A n c l W (hA.ext e))
  have CO := Lib.hid (fun W (e : Ext w W) => Of_any A n c l W (hA.ext e) (by omega))
  have CP := Lib.hid (fun W (e : Ext w W) => refOf_any A n c l W (hA.ext e))
  have CC := Lib.hid (fun W (e : Ext w W) => Count_any A n c l W (hA.ext e))
  have CD := Lib.hid (fun W (e : Ext w W) => refCount_any A n c l W (hA.ext e))
  have CN := Lib.hid (fun W (e : Ext w W) => Nth_any A n c l k W (hA.ext e) hk)
  have CM := Lib.hid (fun W (e : Ext w W) => refNth_any A n c l k W (hA.ext e) hk)
  have CV := Lib.hid (fun W (e : Ext w W) => refSetWrong_any B m d b W (hB.ext e))
  have CI := Lib.hid (fun W (e : Ext w W) => refHas_any A n c l r W (hA.ext e))
  clear hn hk hr
  have hca := hA.cap
  have hcb := hB.cap
  generalize ofV l = vo at *
  generalize ofE l = oe at *
  generalize countV l = cv at *
  generalize (nthL l k).1 = n1 at *
  generalize (nthL l k).2 = n2 at *
  by_cases hz : wrongSet l = 0
  · have ga := good_of hz
    have CH := Lib.hid (fun W (e : Ext w W) => setsHas_any A n c l r W (hA.ext e) hz)
    rw [hz] at C1 CW CC CD
    by_cases hy : wrongSet b = 0
    · have gb := good_of hy
      have CS := Lib.hid (fun W (e : Ext w W) => Sub_any A n c l B m d b W (hA.ext e) (hB.ext e) hz hy)
      have CT := Lib.hid (fun W (e : Ext w W) => refSub_any A n c l B m d b W (hA.ext e) (hB.ext e) ga gb)
      rw [hy] at CV
      clear hz hy ga gb
      generalize has l r = hb at *
      generalize subSet l b = sb at *
      go_enter Try.func15, Try.ntmps15
      go_wp2_with (first
    | (go_at_call 54; (with_reducible refine (C1.out).mono ?_); rintro e w1 ⟨rfl, y1⟩; have x1 := Lib.hid y1; have e1 := Lib.hid (y1); clear y1)
    | (go_at_call 56; (with_reducible refine (CW.out _ e1.out).mono ?_); rintro e w2 ⟨rfl, y2⟩; have x2 := Lib.hid y2; have e2 := Lib.hid (e1.out.trans y2); clear y2)
    | (go_at_call 53; (with_reducible refine (CO.out _ e2.out).mono ?_); rintro e w3 ⟨⟨A3, c3, rfl, t3⟩, y3⟩; have x3 := Lib.hid y3; have e3 := Lib.hid (e2.out.trans y3); have s3 := Lib.hid t3; clear t3; clear y3)
    | (go_at_call 57; (with_reducible refine (CP.out _ e3.out).mono ?_); rintro e w4 ⟨⟨A4, c4, rfl, t4⟩, y4⟩; have x4 := Lib.hid y4; have e4 := Lib.hid (e3.out.trans y4); have s4 := Lib.hid t4; clear t4; clear y4)
    | (go_at_call 55; (with_reducible refine (Same2_any A3 A4 _ c3 c4 _ w4 (s3.out.ext x4.out) s4.out).mono ?_); rintro e w5 ⟨rfl, y5⟩; have x5 := Lib.hid y5; have e5 := Lib.hid (e4.out.trans y5); clear y5)
    | (go_at_call 58; (with_reducible refine (CC.out _ e5.out).mono ?_); rintro e w6 ⟨rfl, y6⟩; have x6 := Lib.hid y6; have e6 := Lib.hid (e5.out.trans y6); clear y6)
    | (go_at_call 59; (with_reducible refine (CD.out _ e6.out).mono ?_); rintro e w7 ⟨rfl, y7⟩; have x7 := Lib.hid y7; have e7 := Lib.hid (e6.out.trans y7); clear y7)
    | (go_at_call 60; (with_reducible refine (CN.out _ e7.out).mono ?_); rintro e w8 ⟨rfl, y8⟩; have x8 := Lib.hid y8; have e8 := Lib.hid (e7.out.trans y8); clear y8)
    | (go_at_call 61; (with_reducible refine (CM.out _ e8.out).mono ?_); rintro e w9 ⟨rfl, y9⟩; have x9 := Lib.hid y9; have e9 := Lib.hid (e8.out.trans y9); clear y9)
    | (go_at_call 56; (with_reducible refine (CW.out _ e9.out).mono ?_); rintro e w10 ⟨rfl, y10⟩; have x10 := Lib.hid y10; have e10 := Lib.hid (e9.out.trans y10); clear y10)
    | (go_at_call 56; (with_reducible refine (CV.out _ e10.out).mono ?_); rintro e w11 ⟨rfl, y11⟩; have x11 := Lib.hid y11; have e11 := Lib.hid (e10.out.trans y11); clear y11)
    | (go_at_call 51; (with_reducible refine (CH.out _ e11.out).mono ?_); rintro e w12 ⟨rfl, y12⟩; have x12 := Lib.hid y12; have e12 := Lib.hid (e11.out.trans y12); clear y12)
    | (go_at_call 62; (with_reducible refine (CI.out _ e12.out).mono ?_); rintro e w13 ⟨rfl, y13⟩; have x13 := Lib.hid y13; have e13 := Lib.hid (e12.out.trans y13); clear y13)
    | (go_at_call 63; (with_reducible refine (CS.out _ e13.out).mono ?_); rintro e w14 ⟨rfl, y14⟩; have x14 := Lib.hid y14; have e14 := Lib.hid (e13.out.trans y14); clear y14)
    | (go_at_call 64; (with_reducible refine (CT.out _ e14.out).mono ?_); rintro e w15 ⟨rfl, y15⟩; have x15 := Lib.hid y15; have e15 := Lib.hid (e14.out.trans y15); clear y15))
      go_ret
      exact ⟨rfl, e15.out⟩
    · have t0 : (wrongSet b != 0) = true := by simpa using hy
      clear hz hy ga CH CI
      generalize wrongSet b = q at *
      go_enter Try.func15, Try.ntmps15
      go_wp2_with (first
    | (go_at_call 54; (with_reducible refine (C1.out).mono ?_); rintro e w1 ⟨rfl, y1⟩; have x1 := Lib.hid y1; have e1 := Lib.hid (y1); clear y1)
    | (go_at_call 56; (with_reducible refine (CW.out _ e1.out).mono ?_); rintro e w2 ⟨rfl, y2⟩; have x2 := Lib.hid y2; have e2 := Lib.hid (e1.out.trans y2); clear y2)
    | (go_at_call 53; (with_reducible refine (CO.out _ e2.out).mono ?_); rintro e w3 ⟨⟨A3, c3, rfl, t3⟩, y3⟩; have x3 := Lib.hid y3; have e3 := Lib.hid (e2.out.trans y3); have s3 := Lib.hid t3; clear t3; clear y3)
    | (go_at_call 57; (with_reducible refine (CP.out _ e3.out).mono ?_); rintro e w4 ⟨⟨A4, c4, rfl, t4⟩, y4⟩; have x4 := Lib.hid y4; have e4 := Lib.hid (e3.out.trans y4); have s4 := Lib.hid t4; clear t4; clear y4)
    | (go_at_call 55; (with_reducible refine (Same2_any A3 A4 _ c3 c4 _ w4 (s3.out.ext x4.out) s4.out).mono ?_); rintro e w5 ⟨rfl, y5⟩; have x5 := Lib.hid y5; have e5 := Lib.hid (e4.out.trans y5); clear y5)
    | (go_at_call 58; (with_reducible refine (CC.out _ e5.out).mono ?_); rintro e w6 ⟨rfl, y6⟩; have x6 := Lib.hid y6; have e6 := Lib.hid (e5.out.trans y6); clear y6)
    | (go_at_call 59; (with_reducible refine (CD.out _ e6.out).mono ?_); rintro e w7 ⟨rfl, y7⟩; have x7 := Lib.hid y7; have e7 := Lib.hid (e6.out.trans y7); clear y7)
    | (go_at_call 60; (with_reducible refine (CN.out _ e7.out).mono ?_); rintro e w8 ⟨rfl, y8⟩; have x8 := Lib.hid y8; have e8 := Lib.hid (e7.out.trans y8); clear y8)
    | (go_at_call 61; (with_reducible refine (CM.out _ e8.out).mono ?_); rintro e w9 ⟨rfl, y9⟩; have x9 := Lib.hid y9; have e9 := Lib.hid (e8.out.trans y9); clear y9)
    | (go_at_call 56; (with_reducible refine (CW.out _ e9.out).mono ?_); rintro e w10 ⟨rfl, y10⟩; have x10 := Lib.hid y10; have e10 := Lib.hid (e9.out.trans y10); clear y10)
    | (go_at_call 56; (with_reducible refine (CV.out _ e10.out).mono ?_); rintro e w11 ⟨rfl, y11⟩; have x11 := Lib.hid y11; have e11 := Lib.hid (e10.out.trans y11); clear y11))
      go_ret
      exact ⟨rfl, e11.out⟩
  · have t0 : (wrongSet l != 0) = true := by simpa using hz
    clear hz CI CV
    generalize wrongSet l = q at *
    go_enter Try.func15, Try.ntmps15
    go_wp2_with (first
    | (go_at_call 54; (with_reducible refine (C1.out).mono ?_); rintro e w1 ⟨rfl, y1⟩; have x1 := Lib.hid y1; have e1 := Lib.hid (y1); clear y1)
    | (go_at_call 56; (with_reducible refine (CW.out _ e1.out).mono ?_); rintro e w2 ⟨rfl, y2⟩; have x2 := Lib.hid y2; have e2 := Lib.hid (e1.out.trans y2); clear y2)
    | (go_at_call 53; (with_reducible refine (CO.out _ e2.out).mono ?_); rintro e w3 ⟨⟨A3, c3, rfl, t3⟩, y3⟩; have x3 := Lib.hid y3; have e3 := Lib.hid (e2.out.trans y3); have s3 := Lib.hid t3; clear t3; clear y3)
    | (go_at_call 57; (with_reducible refine (CP.out _ e3.out).mono ?_); rintro e w4 ⟨⟨A4, c4, rfl, t4⟩, y4⟩; have x4 := Lib.hid y4; have e4 := Lib.hid (e3.out.trans y4); have s4 := Lib.hid t4; clear t4; clear y4)
    | (go_at_call 55; (with_reducible refine (Same2_any A3 A4 _ c3 c4 _ w4 (s3.out.ext x4.out) s4.out).mono ?_); rintro e w5 ⟨rfl, y5⟩; have x5 := Lib.hid y5; have e5 := Lib.hid (e4.out.trans y5); clear y5)
    | (go_at_call 58; (with_reducible refine (CC.out _ e5.out).mono ?_); rintro e w6 ⟨rfl, y6⟩; have x6 := Lib.hid y6; have e6 := Lib.hid (e5.out.trans y6); clear y6)
    | (go_at_call 59; (with_reducible refine (CD.out _ e6.out).mono ?_); rintro e w7 ⟨rfl, y7⟩; have x7 := Lib.hid y7; have e7 := Lib.hid (e6.out.trans y7); clear y7)
    | (go_at_call 60; (with_reducible refine (CN.out _ e7.out).mono ?_); rintro e w8 ⟨rfl, y8⟩; have x8 := Lib.hid y8; have e8 := Lib.hid (e7.out.trans y8); clear y8)
    | (go_at_call 61; (with_reducible refine (CM.out _ e8.out).mono ?_); rintro e w9 ⟨rfl, y9⟩; have x9 := Lib.hid y9; have e9 := Lib.hid (e8.out.trans y9); clear y9)
    | (go_at_call 56; (with_reducible refine (CW.out _ e9.out).mono ?_); rintro e w10 ⟨rfl, y10⟩; have x10 := Lib.hid y10; have e10 := Lib.hid (e9.out.trans y10); clear y10))
    go_ret
    exact ⟨rfl, e10.out⟩

end Go.Proofs.Ytfdkbhbnldcbmaa
