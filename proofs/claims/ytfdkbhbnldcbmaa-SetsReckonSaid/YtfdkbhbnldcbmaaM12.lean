/- Walk of the law SetsReckon (printed by gen/gm11.py). -/
import Derived.Test.YtfdkbhbnldcbmaaW37
import Derived.Test.YtfdkbhbnldcbmaaW18
import Derived.Test.YtfdkbhbnldcbmaaW46
namespace Go.Proofs.Ytfdkbhbnldcbmaa
open Go.RowKit
set_option linter.unusedVariables false
set_option linter.unusedSimpArgs false

set_option maxRecDepth 100000 in
set_option maxHeartbeats 16000000 in
theorem SetsReckon_any (A : Option Addr) (n c : Nat) (a : List Sp) (B : Option Addr) (m d : Nat) (b : List Sp) (w : World) (hA : Spans w A n c a) (hB : Spans w B m d b) :
    Calls Try.prog 16 #[.slice A n c, .slice B m d] w fun e w' => e = .returned (.bool true) ∧ Ext w w' := by
  have C1 := Lib.hid (NotS_any A n c a w hA)
  have D1 := Lib.hid (fun W (e : Ext w W) => refNot_any A n c a W (hA.ext e) none 0 0)
  have C2 := Lib.hid (fun W (e : Ext w W) => UnionS_any A n c a B m d b W (hA.ext e) (hB.ext e))
  have D2 := Lib.hid (fun W (e : Ext w W) => refDo2_any 124 (.inl rfl) A n c a B m d b W (hA.ext e) (hB.ext e))
  have C3 := Lib.hid (fun W (e : Ext w W) => MeetS_any A n c a B m d b W (hA.ext e) (hB.ext e))
  have D3 := Lib.hid (fun W (e : Ext w W) => refDo2_any 38 (.inr (.inl rfl)) A n c a B m d b W (hA.ext e) (hB.ext e))
  have C4 := Lib.hid (fun W (e : Ext w W) => MinusS_any A n c a B m d b W (hA.ext e) (hB.ext e))
  have D4 := Lib.hid (fun W (e : Ext w W) => refDo2_any 45 (.inr (.inr rfl)) A n c a B m d b W (hA.ext e) (hB.ext e))
  have q1 : doL 124 a b = ofS (a ++ b) := by simp [doL]
  have q2 : doL 38 a b = meetL a b := by simp [doL]
  have q3 : doL 45 a b = meetL a (notL b) := by simp [doL]
  rw [q1] at D2; rw [q2] at D3; rw [q3] at D4
  clear q1 q2 q3
  have hca := hA.cap
  have hcb := hB.cap
  generalize setOut (wrongSets [a]) (notL a) = P1 at *
  generalize setOut (wrongSets [a, b]) (ofS (a ++ b)) = P2 at *
  generalize setOut (wrongSets [a, b]) (meetL a b) = P3 at *
  generalize setOut (wrongSets [a, b]) (meetL a (notL b)) = P4 at *
  obtain ⟨s1', v1⟩ := P1; obtain ⟨s2', v2⟩ := P2; obtain ⟨s3', v3⟩ := P3; obtain ⟨s4', v4⟩ := P4
  clear hA hB
  go_enter Try.func16, Try.ntmps16
  go_wp2_with (first
    | (go_at_call 65; (with_reducible refine (C1.out).mono ?_); rintro e w1 ⟨⟨A1, c1, rfl, t1⟩, y1⟩; have x1 := Lib.hid y1; have e1 := Lib.hid (y1); have s1 := Lib.hid t1; clear t1; clear y1)
    | (go_at_call 66; (with_reducible refine (D1.out _ e1.out).mono ?_); rintro e w2 ⟨⟨A2, c2, rfl, t2⟩, y2⟩; have x2 := Lib.hid y2; have e2 := Lib.hid (e1.out.trans y2); have s2 := Lib.hid t2; clear t2; clear y2)
    | (go_at_call 55; (with_reducible refine (Same2_any A1 A2 _ c1 c2 _ w2 (s1.out.ext x2.out) s2.out).mono ?_); rintro e w3 ⟨rfl, y3⟩; have x3 := Lib.hid y3; have e3 := Lib.hid (e2.out.trans y3); clear y3)
    | (go_at_call 67; (with_reducible refine (C2.out _ e3.out).mono ?_); rintro e w4 ⟨⟨A4, c4, rfl, t4⟩, y4⟩; have x4 := Lib.hid y4; have e4 := Lib.hid (e3.out.trans y4); have s4 := Lib.hid t4; clear t4; clear y4)
    | (go_at_call 66; (with_reducible refine (D2.out _ e4.out).mono ?_); rintro e w5 ⟨⟨A5, c5, rfl, t5⟩, y5⟩; have x5 := Lib.hid y5; have e5 := Lib.hid (e4.out.trans y5); have s5 := Lib.hid t5; clear t5; clear y5)
    | (go_at_call 55; (with_reducible refine (Same2_any A4 A5 _ c4 c5 _ w5 (s4.out.ext x5.out) s5.out).mono ?_); rintro e w6 ⟨rfl, y6⟩; have x6 := Lib.hid y6; have e6 := Lib.hid (e5.out.trans y6); clear y6)
    | (go_at_call 68; (with_reducible refine (C3.out _ e6.out).mono ?_); rintro e w7 ⟨⟨A7, c7, rfl, t7⟩, y7⟩; have x7 := Lib.hid y7; have e7 := Lib.hid (e6.out.trans y7); have s7 := Lib.hid t7; clear t7; clear y7)
    | (go_at_call 66; (with_reducible refine (D3.out _ e7.out).mono ?_); rintro e w8 ⟨⟨A8, c8, rfl, t8⟩, y8⟩; have x8 := Lib.hid y8; have e8 := Lib.hid (e7.out.trans y8); have s8 := Lib.hid t8; clear t8; clear y8)
    | (go_at_call 55; (with_reducible refine (Same2_any A7 A8 _ c7 c8 _ w8 (s7.out.ext x8.out) s8.out).mono ?_); rintro e w9 ⟨rfl, y9⟩; have x9 := Lib.hid y9; have e9 := Lib.hid (e8.out.trans y9); clear y9)
    | (go_at_call 69; (with_reducible refine (C4.out _ e9.out).mono ?_); rintro e w10 ⟨⟨A10, c10, rfl, t10⟩, y10⟩; have x10 := Lib.hid y10; have e10 := Lib.hid (e9.out.trans y10); have s10 := Lib.hid t10; clear t10; clear y10)
    | (go_at_call 66; (with_reducible refine (D4.out _ e10.out).mono ?_); rintro e w11 ⟨⟨A11, c11, rfl, t11⟩, y11⟩; have x11 := Lib.hid y11; have e11 := Lib.hid (e10.out.trans y11); have s11 := Lib.hid t11; clear t11; clear y11)
    | (go_at_call 55; (with_reducible refine (Same2_any A10 A11 _ c10 c11 _ w11 (s10.out.ext x11.out) s11.out).mono ?_); rintro e w12 ⟨rfl, y12⟩; have x12 := Lib.hid y12; have e12 := Lib.hid (e11.out.trans y12); clear y12))
  go_ret
  exact ⟨rfl, e12.out⟩

end Go.Proofs.Ytfdkbhbnldcbmaa
