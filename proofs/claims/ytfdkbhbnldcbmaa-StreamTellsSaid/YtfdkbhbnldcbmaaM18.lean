/- Walk of the law StreamTells. -/
import Derived.Test.YtfdkbhbnldcbmaaW67
import Derived.Test.YtfdkbhbnldcbmaaW12
namespace Go.Proofs.Ytfdkbhbnldcbmaa
open Go.RowKit
set_option linter.unusedVariables false
set_option linter.unusedSimpArgs false

section
variable (A : Option Addr) (n c : Nat) (l : List Rule) (T : Option Addr) (k e : Nat) (cs : List (List Int)) (w : World) (h : Rules w A n c l) (hT : Texts w T k e cs)
set_option maxRecDepth 100000 in
set_option maxHeartbeats 4000000 in
include h hT in
theorem StreamTells_any :
    Calls Try.prog 8 #[.slice A n c, .slice T k e] w fun x w' => x = .returned (.bool true) ∧ Ext w w' := by
  have C1 := Lib.hid (fun W (e1 : Ext w W) => Feed_any A n c l T k e cs W (h.ext e1) (hT.ext e1))
  have C2 := Lib.hid (fun W (e1 : Ext w W) => refFeedT_any A n c l T k e cs W (h.ext e1) (hT.ext e1))
  have C3 := Lib.hid (fun W (e1 : Ext w W) => Wait_any A n c l T k e cs W (h.ext e1) (hT.ext e1))
  have C4 := Lib.hid (fun W (e1 : Ext w W) => refFeedF_any A n c l T k e cs W (h.ext e1) (hT.ext e1))
  unfold FeedV at C1
  unfold RFeedV at C2
  generalize feedO l cs = ls at C1 C2
  generalize (feedF l cs).1 = r1 at C1 C2
  generalize (feedF l cs).2 = r2 at C1 C2
  generalize (waitF l cs).1 = q1 at C3 C4
  generalize (waitF l cs).2 = q2 at C3 C4
  generalize waitN l cs = wn at C3 C4
  obtain ⟨N, hN⟩ : ∃ N, ls.length = N := ⟨_, rfl⟩
  rw [hN] at C1 C2
  have HN := Lib.hid hN
  clear h hT hN
  go_enter Try.func8, Try.ntmps8
  go_wp2_with (first
    | (go_at_call 42; refine (C1.out _ (Ext.refl w)).mono ?_; rintro x w1 ⟨⟨A1, c1, rfl, sA⟩, x1⟩; have y1 := x1.alloc (.cells #[.int .i64 r1, .int .i64 r2] 38); have sA1 := Texts.ext sA ((Ext.refl w1).alloc (.cells #[.int .i64 r1, .int .i64 r2] 38)); have K0 := Lib.hid (cell_new w1 #[.int .i64 r1, .int .i64 r2] 38 0 (.int .i64 r1) rfl); have K1 := Lib.hid (cell_new w1 #[.int .i64 r1, .int .i64 r2] 38 1 (.int .i64 r2) rfl); have W1 := Wr.new w1 #[.int .i64 r1, .int .i64 r2] 38; have lt1 : w1.heap.size < (w1.alloc (.cells #[.int .i64 r1, .int .i64 r2] 38)).heap.size := by simp)
    | (go_at_call 43; refine (C2.out _ y1).mono ?_; rintro x w2 ⟨⟨A2, c2, yy, rfl, sB⟩, x2⟩; have y2 := (y1.trans x2).alloc (.cells #[.int .i64 r1, .int .i64 r2] 38); have sA2 := Texts.ext sA1 (x2.alloc (.cells #[.int .i64 r1, .int .i64 r2] 38)); have sB2 := Texts.ext sB ((Ext.refl w2).alloc (.cells #[.int .i64 r1, .int .i64 r2] 38)); have k0 := x2.cell K0.out; have k1 := x2.cell K1.out; have lt2 : w1.heap.size < w2.heap.size := Nat.lt_of_lt_of_le lt1 x2.size; have ne2 := Nat.ne_of_lt lt2; have ne2s := ne2.symm))
  have hb1 : w.heap.size ≤ w1.heap.size := x1.size
  have hb2 : w.heap.size ≤ w2.heap.size := by omega
  have m0 := ((Ext.refl w2).alloc (.cells #[.int .i64 r1, .int .i64 r2] 38)).cell k0
  have m1 := ((Ext.refl w2).alloc (.cells #[.int .i64 r1, .int .i64 r2] 38)).cell k1
  have n0 := cell_new w2 #[.int .i64 r1, .int .i64 r2] 38 0 (.int .i64 r1) rfl
  have n1 := cell_new w2 #[.int .i64 r1, .int .i64 r2] 38 1 (.int .i64 r2) rfl
  have U1 := (W1.ext x2).ext ((Ext.refl w2).alloc (.cells #[.int .i64 r1, .int .i64 r2] 38))
  have U2 := Wr.new w2 #[.int .i64 r1, .int .i64 r2] 38
  generalize w2.alloc (.cells #[.int .i64 r1, .int .i64 r2] 38) = w3 at *
  generalize w1.heap.size = b1 at *
  generalize w2.heap.size = b2 at *
  clear sA sB sA1 k0 k1 K0 K1 W1 lt1 lt2 x1 x2 y1 C1 C2
  go_loopw [39] (fun i wr => ∃ j : Nat, i = .int .i64 j ∧ j ≤ N ∧ Ext w3 wr) (fun i _ => N - (intOf i).toNat)
  case atStart => exact ⟨0, rfl, by omega, Ext.refl _⟩
  case round =>
    obtain ⟨j, rfl, hj, hx⟩ := hrel
    have hsA := sA2.cap; have hmA := sA2.max; have hsB := sB2.cap; have hmB := sB2.max; unfold maxLen at hmA hmB
    by_cases hlt : j < N
    · obtain ⟨t, ht⟩ := sA2.idx hlt
      obtain ⟨d1, p1, X1, a1, e1, rfl, _, hc1, hs1⟩ := (Texts.ext sA2 hx).sl ht
      obtain ⟨d2, p2, X2, a2, e2, rfl, _, hc2, hs2⟩ := (Texts.ext sB2 hx).sl ht
      clear ht
      go_wp2
      go_still_tail 8, (by kernel_rfl)
      change wpList _ _ _ _ _ wr.drew
      have hxd := (Ext.refl wr).drew
      have hs1d := Runes.ext (SlR.mono hs1 (fun _ _ h => h) (fun _ h => h)) hxd
      have hs2d := Runes.ext (SlR.mono hs2 (fun _ _ h => h) (fun _ h => h)) hxd
      generalize wr.drew = w4 at *
      go_wp2_with (go_at_call 30; refine (Same_any _ _ _ _ _ _ _ _ _ hs1d hs2d).mono ?_; rintro x w5 ⟨rfl, x5⟩; simp only [decide_true])
      go_roundw
      case rel => exact ⟨j + 1, by go_num, by omega, (hx.trans hxd).trans x5⟩
      case measure => simp [intOf]; omega
    · have o0 := hx.cell m0; have o1 := hx.cell m1; have o2 := hx.cell n0; have o3 := hx.cell n1
      have V1 := U1.ext hx; have V2 := U2.ext hx
      have z1 := V1.2; have z2 := V2.2
      have yr := y2.trans hx
      go_wp2_with (first
        | (go_at_call 44; refine (C3.out _ yr).mono ?_; rintro x w6 ⟨rfl, x6⟩; have p0 := x6.cell o0; have p1 := x6.cell o1; have p2 := x6.cell o2; have p3 := x6.cell o3; have V6 := (V1.ext x6); have pz := V6.2; have y7 := ext_set (ext_set (yr.trans x6) hb1 0 (.int .i64 q1)) hb1 1 (.int .i64 (q2 : Int)); have a0 := Lib.hid (set_other (o' := 1) (v := .int .i64 (q2 : Int)) (set_same (v := .int .i64 q1) p0) (by omega)); have a1 := Lib.hid (set_same (v := .int .i64 (q2 : Int)) (set_other (o' := 0) (v := .int .i64 q1) p1 (by omega))); have a2 := Lib.hid (set_far2 (o' := 1) (u := .int .i64 (q2 : Int)) (set_far2 (o' := 0) (u := .int .i64 q1) p2 ne2s) ne2s); have a3 := Lib.hid (set_far2 (o' := 1) (u := .int .i64 (q2 : Int)) (set_far2 (o' := 0) (u := .int .i64 q1) p3 ne2s) ne2s); have V7 := Lib.hid (((V2.ext x6).set ⟨b1, 0, none⟩ (.int .i64 q1)).set ⟨b1, 1, none⟩ (.int .i64 (q2 : Int))))
        | (go_at_call 43; refine (C4.out _ y7).mono ?_; rintro x w8 ⟨rfl, x8⟩; have c0 := x8.cell a0.out; have c1' := x8.cell a1.out; have c2' := x8.cell a2.out; have c3 := x8.cell a3.out; have V8 := V7.out.ext x8; have cz := V8.2; have y9 := ext_set (ext_set (y7.trans x8) hb2 0 (.int .i64 q1)) hb2 1 (.int .i64 (q2 : Int))))
      go_ret
      exact ⟨rfl, y9⟩
end

end Go.Proofs.Ytfdkbhbnldcbmaa
