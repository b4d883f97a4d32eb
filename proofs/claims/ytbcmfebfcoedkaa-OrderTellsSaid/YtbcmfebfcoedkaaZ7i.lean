/- Walk: slices' stableCmpFunc and SortStableFunc, at ints. -/
import Derived.Test.YtbcmfebfcoedkaaZ6i
namespace Go.Proofs.Ytbcmfebfcoedkaa
open Go.RowKit Go.Sort
set_option linter.unusedVariables false
set_option linter.unusedSimpArgs false

section
variable (g : FuncId) (cb : Array Value) (cf : Int → Int → Int) (o : Ord (ltC cf)) (w0 : World) (b off N cap : Nat) (L0 : List Int) (ok : Int → Prop)
    (eg : ∀ args w, (callFunc g args).run Try.prog w = .ok (.enter g args) w) (hc : CmpX Try.prog g cb .i64 cf w0 b off L0 ok) (hm : N < 1152921504606846976)

set_option maxHeartbeats 8000000 in
set_option maxRecDepth 1000000 in
include o eg hc hm in
theorem stable_i (L : List Int) (w : World) (hS : SE .i64 w0 b off L0 ok L w) (hN : L.length = N) :
    Calls Try.prog 49 #[.slice (some ⟨b, off, none⟩) N cap, .int .i64 N, .func (.func g) #[] cb] w
      fun e w' => e = .returned (.tuple #[]) ∧ SE .i64 w0 b off L0 ok (isort (ltC cf) L) w' := by
  have hm' : N < 4611686018427387904 := by omega
  have INS := Lib.hid (fun W D P M R x y (S : SE .i64 w0 b off L0 ok D W) h1 h2 h3 h4 => insertion_i g cb cf o w0 b off N cap L0 D P M R ok W x y eg hc S h1 h2 h3 h4 hm')
  have SYM := Lib.hid (fun x m y => sym_i g cb cf o w0 b off N cap L0 ok eg hc hm' (y - x + 1) x m y (by omega))
  have S0len : L0.length = N := by rw [← hS.len]; exact hN
  have S0 := Lib.hid hS; clear hS hc
  clear eg
  go_enter Try.func49, Try.ntmps49
  go_wp2
  go_loopw [7, 8] (fun va vc wr => ∃ (a c : Nat) (D M R : List Int), va = .int .i64 a ∧ vc = .int .i64 c ∧ c ≤ a + 20 ∧ a + 20 ≤ c ∧ a ≤ N ∧ D.length = a ∧ Hid (L = M ++ R) ∧ Hid (Bp (ltC cf) 20 D M) ∧ Hid (SE .i64 w0 b off L0 ok (D ++ R) wr)) (fun va _ _ => N - (intOf va).toNat)
  case atStart => exact ⟨0, 20, [], [], L, rfl, rfl, by omega, by omega, by omega, rfl, Lib.hid rfl, Lib.hid .nil, S0⟩
  case round =>
    clear S0
    obtain ⟨a, c, D, M, R, rfl, rfl, c1, c2, haN, hDa, hL, HB, S1⟩ := hrel
    have hR : a + R.length = N := by have := congrArg List.length hL.out; have := HB.out.len o; simp at *; omega
    by_cases hlt : c ≤ N
    · have hltz : (c : Int) ≤ (N : Int) := by omega
      obtain ⟨X, R', rfl, hX, hR'⟩ := cut_at R 20 (by omega)
      have C := Lib.hid (INS.out wr (D ++ (X ++ R')) D X R' a c S1.out (by simp at hR ⊢; omega) (by simp) hDa (by omega))
      have HB2 := Lib.hid (HB.out.snoc hX)
      have hL2 := Lib.hid (show L = M ++ X ++ R' by rw [hL.out]; simp)
      have hlen2 : (D ++ isort (ltC cf) X).length = c := by simp [isort_len o]; omega
      have wc : IntKind.i64.wrap ((c : Int) + 20) = (c : Int) + 20 := IntWalk.i64_in _ (by omega)
      clear HB hL S1 hR hX hR' hDa
      go_wp2_with (go_at_call 54; ((with_reducible refine C.out.mono ?_); rintro _ w4 ⟨rfl, k4⟩))
      go_roundw
      case rel => exact ⟨c, c + 20, _, _, R', by first | rfl | go_num, by first | rfl | go_num, by omega, by omega, by omega, hlen2, hL2, HB2, Lib.hid k4⟩
      case measure => simp [intOf]; omega
    · have hltz : ¬ (c : Int) ≤ (N : Int) := by omega
      have C := Lib.hid (INS.out wr (D ++ R) D R [] a N S1.out (by simp; omega) (by simp) hDa (by omega))
      have HBl := Lib.hid (show Bl (ltC cf) 20 (D ++ isort (ltC cf) R) L from by
        rw [hL.out]
        exact HB.out.app (.last (by omega)))
      rw [List.append_nil] at C
      clear HB hL S1 hR hDa
      generalize D ++ isort (ltC cf) R = D2 at *
      go_wp2_with (go_at_call 54; ((with_reducible refine C.out.mono ?_); rintro _ w4 ⟨rfl, k4⟩))
      have S5 := Lib.hid k4
      go_loopw [6] (fun vb wr => ∃ (bs : Nat) (D : List Int), vb = .int .i64 bs ∧ 0 < bs ∧ Hid (Bl (ltC cf) bs D L) ∧ Hid (SE .i64 w0 b off L0 ok D wr)) (fun vb _ => N - (intOf vb).toNat)
      case atStart => exact ⟨20, D2, rfl, by omega, HBl, S5⟩
      case round =>
        clear S5 HBl C k4
        obtain ⟨bs, D, rfl, hbs, HB, S1⟩ := hrel
        by_cases hbN : bs < N
        · have hbz : (bs : Int) < (N : Int) := by omega
          obtain ⟨q, hq⟩ : ∃ q, q = 2 * bs := ⟨_, rfl⟩
          have q1 : 2 * bs ≤ q := by omega
          have q2 : q ≤ 2 * bs := by omega
          have eq : 2 * (bs : Int) = (q : Int) := by omega
          have eq' : (bs : Int) * 2 = (q : Int) := by omega
          have wq : IntKind.i64.wrap (2 * (bs : Int)) = (q : Int) := by rw [IntKind.wrap_i64]; omega
          have wq' : IntKind.i64.wrap ((bs : Int) * 2) = (q : Int) := by rw [IntKind.wrap_i64]; omega
          have wq'' : IntKind.i64.wrap (q : Int) = (q : Int) := by rw [IntKind.wrap_i64]; omega
          clear hq
          go_wp2
          go_loopw [7, 8] (fun va vc wr => ∃ (a c : Nat) (D D' M M' : List Int), va = .int .i64 a ∧ vc = .int .i64 c ∧ c ≤ a + q ∧ a + q ≤ c ∧ a ≤ N ∧ D.length = a ∧ Hid (L = M ++ M') ∧ Hid (Bp (ltC cf) q D M) ∧ Hid (Bl (ltC cf) bs D' M') ∧ Hid (SE .i64 w0 b off L0 ok (D ++ D') wr)) (fun va _ _ => N - (intOf va).toNat)
          case atStart => exact ⟨0, q, [], D, [], L, rfl, rfl, by omega, by omega, by omega, rfl, Lib.hid rfl, Lib.hid .nil, HB, S1⟩
          case round =>
            clear S1 HB
            obtain ⟨a, c, D, D', M, M', rfl, rfl, c1, c2, haN, hDa, hL, HP, HB, S1⟩ := hrel
            have hR : a + M'.length = N := by have := congrArg List.length hL.out; have := HP.out.len o; simp at *; omega
            obtain ⟨mm, hmm⟩ : ∃ r, r = a + bs := ⟨_, rfl⟩
            have em : (a : Int) + (bs : Int) = (mm : Int) := by omega
            have wm : IntKind.i64.wrap ((a : Int) + (bs : Int)) = (mm : Int) := by rw [IntKind.wrap_i64]; omega
            have wm' : IntKind.i64.wrap (mm : Int) = (mm : Int) := by rw [IntKind.wrap_i64]; omega
            by_cases hlt2 : c ≤ N
            · have hltz2 : (c : Int) ≤ (N : Int) := by omega
              obtain ⟨X, D1, M1, hX, hD1, hM1, HB1⟩ := HB.out.two o (by omega)
              have hl1 : bs + M1.length = M'.length := by rw [hM1]; simp; omega
              obtain ⟨Y, D2, M2, hY, hD2, hM2, HB2⟩ := HB1.first o (by omega)
              have C := Lib.hid (SYM.out a mm c (by omega) (by omega) (D ++ D') D (isort (ltC cf) X) (isort (ltC cf) Y) D2 wr S1.out (S1.out.len.trans S0len) ⟨by rw [hD1, hD2]; simp, hDa, by rw [isort_len o]; omega, by rw [isort_len o]; omega, (isort_both o _).1, (isort_both o _).1⟩)
              rw [isort_app o] at C
              have HP2 := Lib.hid (HP.out.snoc (X := X ++ Y) (by simp; omega))
              have hL2 := Lib.hid (show L = M ++ (X ++ Y) ++ M2 by rw [hL.out, hM1, hM2]; simp)
              have hlen2 : (D ++ isort (ltC cf) (X ++ Y)).length = c := by simp [isort_len o]; omega
              have HB3 := Lib.hid HB2
              have wc : IntKind.i64.wrap ((c : Int) + (q : Int)) = (c : Int) + (q : Int) := IntWalk.i64_in _ (by omega)
              clear HB HP hL S1 hR HB1 HB2 hD1 hM1 hD2 hM2 hmm hX hY hl1 hDa
              go_wp2_with (go_at_call 55; ((with_reducible refine C.out.mono ?_); rintro _ w4 ⟨rfl, k4⟩))
              go_roundw
              case rel => exact ⟨c, c + q, _, D2, _, M2, by first | rfl | go_num, by first | rfl | go_num, by omega, by omega, by omega, hlen2, hL2, HP2, HB3, Lib.hid k4⟩
              case measure => simp [intOf]; omega
            · have hltz2 : ¬ (c : Int) ≤ (N : Int) := by omega
              by_cases hmN : mm < N
              · have hmz : (mm : Int) < (N : Int) := by omega
                obtain ⟨X, D1, M1, hX, hD1, hM1, HB1⟩ := HB.out.two o (by omega)
                have hl1 : bs + M1.length = M'.length := by rw [hM1]; simp; omega
                have eD1 := HB1.one o (by omega)
                have C := Lib.hid (SYM.out a mm N (by omega) (by omega) (D ++ D') D (isort (ltC cf) X) (isort (ltC cf) M1) [] wr S1.out (S1.out.len.trans S0len) ⟨by rw [hD1, eD1]; simp, hDa, by rw [isort_len o]; omega, by rw [isort_len o]; omega, (isort_both o _).1, (isort_both o _).1⟩)
                rw [isort_app o, List.append_nil] at C
                have HB3 := Lib.hid (show Bl (ltC cf) q (D ++ isort (ltC cf) (X ++ M1)) L from by
                  rw [hL.out, hM1]
                  exact HP.out.app (.last (by simp; omega)))
                clear HB HP hL S1 hR HB1 hD1 hM1 hmm hX hl1 hDa eD1
                generalize D ++ isort (ltC cf) (X ++ M1) = D3 at *
                go_wp2_with (go_at_call 55; ((with_reducible refine C.out.mono ?_); rintro _ w4 ⟨rfl, k4⟩))
                go_roundw
                case rel => exact ⟨q, D3, by first | rfl | go_num, by omega, HB3, Lib.hid k4⟩
                case measure => simp [intOf]; omega
              · have hmz : ¬ (mm : Int) < (N : Int) := by omega
                have eD := HB.out.one o (by omega)
                have HB3 := Lib.hid (show Bl (ltC cf) q (D ++ D') L from by
                  rw [hL.out, eD]
                  exact HP.out.app (.last (by omega)))
                clear HB HP hL hR hmm hDa eD
                generalize D ++ D' = D3 at *
                go_wp2
                go_roundw
                case rel => exact ⟨q, D3, by first | rfl | go_num, by omega, HB3, S1⟩
                case measure => simp [intOf]; omega
        · have hbz : ¬ (bs : Int) < (N : Int) := by omega
          have e := HB.out.one o (by omega)
          subst e
          go_wp2
          go_end0
          exact ⟨rfl, S1.out⟩

set_option maxRecDepth 1000000 in
include o eg hc hm in
theorem SortStable_i (L : List Int) (w : World) (hS : SE .i64 w0 b off L0 ok L w) (hN : L.length = N) :
    Calls Try.prog 38 #[.slice (some ⟨b, off, none⟩) N cap, .func (.func g) #[] cb] w
      fun e w' => e = .returned (.tuple #[]) ∧ SE .i64 w0 b off L0 ok (isort (ltC cf) L) w' := by
  have C := Lib.hid (stable_i g cb cf o w0 b off N cap L0 ok eg hc hm L w hS hN)
  clear hS hN hc eg o
  go_enter Try.func38, Try.ntmps38
  go_wp2_with (go_at_call 49; ((with_reducible refine C.out.mono ?_); rintro _ w4 ⟨rfl, k4⟩))
  go_end0
  exact ⟨rfl, k4⟩

end

end Go.Proofs.Ytbcmfebfcoedkaa
