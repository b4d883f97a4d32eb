/- Walks: slices' swapRangeCmpFunc, rotateCmpFunc and insertionSortCmpFunc, at ints. -/
import Derived.Test.YtbcmfebfcoedkaaZ3
import Derived.Test.YtbcmfebfcoedkaaKit
import Derived.BigRegion
import Derived.Shelf.Abstract
import Derived.Deep.QuietTactic
namespace Go.Proofs.Ytbcmfebfcoedkaa
open Go.RowKit Go.Sort
set_option linter.unusedVariables false
set_option linter.unusedSimpArgs false

set_option maxHeartbeats 4000000 in
set_option maxRecDepth 1000000 in
theorem swapRange_i (fv : Value) (w0 : World) (b off N cap : Nat) (L0 L : List Int) (ok : Int → Prop) (w : World) (x y n : Nat)
    (S : SE .i64 w0 b off L0 ok L w) (hN : L.length = N) (hx : x + n ≤ N) (hy : y + n ≤ N) (hm : N < 4611686018427387904) :
    Calls Try.prog 60 #[.slice (some ⟨b, off, none⟩) N cap, .int .i64 x, .int .i64 y, .int .i64 n, fv] w fun e w' => e = .returned (.tuple #[]) ∧ SE .i64 w0 b off L0 ok (swR L x y n) w' := by
  have S0 := Lib.hid S; clear S
  go_enter Try.func60, Try.ntmps60
  go_wp2
  go_loopw [10] (fun vi wr => ∃ i : Nat, vi = .int .i64 i ∧ i ≤ n ∧ Hid (SE .i64 w0 b off L0 ok (swR L x y i) wr)) (fun vi _ => n - (intOf vi).toNat)
  case atStart => exact ⟨0, rfl, by omega, S0⟩
  case round =>
    obtain ⟨i, rfl, hi, S1⟩ := hrel
    by_cases hlt : i < n
    · have hl1 : (swR L x y i).length = N := by rw [swR_len]; exact hN
      obtain ⟨p, hp⟩ : ∃ p, p = x + i := ⟨_, rfl⟩
      obtain ⟨q, hq⟩ : ∃ q, q = y + i := ⟨_, rfl⟩
      obtain ⟨u, hu⟩ : ∃ u, u = (swR L x y i).getD p 0 := ⟨_, rfl⟩
      obtain ⟨v, hv⟩ : ∃ v, v = (swR L x y i).getD q 0 := ⟨_, rfl⟩
      have hpN : p < (swR L x y i).length := by omega
      have hqN : q < (swR L x y i).length := by omega
      have S2 := Lib.hid (show SE .i64 w0 b off L0 ok (swR L x y (i + 1)) _ from by
        have := S1.out.swap hpN hqN
        rw [swR, ← hp, ← hq]; exact this)
      rw [← hu, ← hv] at S2
      have c1 := S1.out.cell hpN; rw [← hu] at c1
      have c2 := S1.out.cell hqN; rw [← hv] at c2
      have f1 := S1.out.frz hpN
      have f2 := S1.out.frz hqN
      obtain ⟨z, c3⟩ := S1.out.c2 hpN hqN (.int .i64 v)
      have ep : (x : Int) + (i : Int) = (p : Int) := by omega
      have eq : (y : Int) + (i : Int) = (q : Int) := by omega
      have wp : IntKind.i64.wrap ((x : Int) + (i : Int)) = (p : Int) := by rw [IntKind.wrap_i64]; omega
      have wq : IntKind.i64.wrap ((y : Int) + (i : Int)) = (q : Int) := by rw [IntKind.wrap_i64]; omega
      have bp : (p : Int) < (N : Int) := by omega
      have bq : (q : Int) < (N : Int) := by omega
      clear hu hv S1 hpN hqN hp hq hl1
      go_wp2
      go_region
      generalize (((wr.setCell ⟨b, off + p, none⟩ (Value.int .i64 v)).setCell ⟨b, off + q, none⟩ (Value.int .i64 u)).drew) = w3 at *
      go_wp2
      go_roundw
      case rel => exact ⟨i + 1, by go_num, by omega, S2⟩
      case measure => simp [intOf]; omega
    · have : i = n := by omega
      subst this
      go_wp2
      go_end0
      exact ⟨rfl, S1.out⟩

set_option maxHeartbeats 4000000 in
set_option maxRecDepth 1000000 in
theorem rotate_i (fv : Value) (w0 : World) (b off N cap : Nat) (L0 L T : List Int) (ok : Int → Prop) (w : World) (x m y : Nat)
    (S : SE .i64 w0 b off L0 ok L w) (hN : L.length = N) (hx : x < m) (hy : m < y) (hyN : y ≤ N) (hm : N < 4611686018427387904) (R : RotI L m (m - x) (y - m) T) :
    Calls Try.prog 58 #[.slice (some ⟨b, off, none⟩) N cap, .int .i64 x, .int .i64 m, .int .i64 y, fv] w fun e w' => e = .returned (.tuple #[]) ∧ SE .i64 w0 b off L0 ok T w' := by
  have S0 := Lib.hid S; clear S
  have R0 := Lib.hid R; clear R
  obtain ⟨i0, hi0⟩ : ∃ q, q = m - x := ⟨_, rfl⟩
  obtain ⟨j0, hj0⟩ : ∃ q, q = y - m := ⟨_, rfl⟩
  rw [← hi0, ← hj0] at R0
  have ei : (m : Int) - (x : Int) = (i0 : Int) := by omega
  have ej : (y : Int) - (m : Int) = (j0 : Int) := by omega
  have wi : IntKind.i64.wrap ((m : Int) - (x : Int)) = (i0 : Int) := by rw [IntKind.wrap_i64]; omega
  have wj : IntKind.i64.wrap ((y : Int) - (m : Int)) = (j0 : Int) := by rw [IntKind.wrap_i64]; omega
  go_enter Try.func58, Try.ntmps58
  go_wp2
  clear ei ej wi wj
  go_loopw [10, 11] (fun vi vj wr => ∃ (i j : Nat) (D : List Int), vi = .int .i64 i ∧ vj = .int .i64 j ∧ 0 < i ∧ 0 < j ∧ i ≤ m ∧ m + j ≤ N ∧ D.length = N ∧ Hid (RotI D m i j T) ∧ Hid (SE .i64 w0 b off L0 ok D wr)) (fun vi vj _ => (intOf vi).toNat + (intOf vj).toNat)
  case atStart => exact ⟨i0, j0, L, by first | rfl | (rw [hi0]) | (congr 1; omega), by first | rfl | (rw [hj0]) | (congr 1; omega), by omega, by omega, by omega, by omega, hN, R0, S0⟩
  case round =>
    obtain ⟨i, j, D, rfl, rfl, hi, hj, him, hjm, hD, R1, S1⟩ := hrel
    clear R0 S0
    obtain ⟨p, hp⟩ : ∃ p, p = m - i := ⟨_, rfl⟩
    have ep : (m : Int) - (i : Int) = (p : Int) := by omega
    have wp : IntKind.i64.wrap ((m : Int) - (i : Int)) = (p : Int) := by rw [IntKind.wrap_i64]; omega
    by_cases hij : i = j
    · subst hij
      have C := Lib.hid (swapRange_i fv w0 b off N cap L0 D ok wr p m i S1.out hD (by omega) (by omega) hm)
      have HT := Lib.hid R1.out.done
      rw [← hp] at HT
      clear R1 S1 hp
      go_wp2_with (go_at_call 60; refine C.out.mono ?_; rintro e w1 ⟨rfl, hS⟩)
      go_end0
      rw [HT.out] at hS
      exact ⟨rfl, hS⟩
    · have hne : ¬ ((i : Int) = (j : Int)) := by omega
      by_cases hlt : j < i
      · have hltz : (j : Int) < (i : Int) := by omega
        have C := Lib.hid (swapRange_i fv w0 b off N cap L0 D ok wr p m j S1.out hD (by omega) (by omega) hm)
        have R2 := Lib.hid (R1.out.more hlt)
        rw [← hp] at R2
        have hD2 : (swR D p m j).length = N := by rw [swR_len]; exact hD
        clear R1 S1 hp hD
        generalize swR D p m j = D2 at *
        go_wp2_with (go_at_call 60; refine C.out.mono ?_; rintro e w1 ⟨rfl, hS⟩)
        go_roundw
        case rel => exact ⟨i - j, j, D2, by go_num, rfl, by omega, hj, by omega, by omega, hD2, R2, Lib.hid hS⟩
        case measure => simp [intOf]; omega
      · have hltz : ¬ (j : Int) < (i : Int) := by omega
        have hlt2 : i < j := by omega
        obtain ⟨q0, hq0⟩ : ∃ p, p = m + j := ⟨_, rfl⟩
        obtain ⟨q, hq⟩ : ∃ p, p = m + j - i := ⟨_, rfl⟩
        have e0 : (m : Int) + (j : Int) = (q0 : Int) := by omega
        have w0' : IntKind.i64.wrap ((m : Int) + (j : Int)) = (q0 : Int) := by rw [IntKind.wrap_i64]; omega
        have e1 : (q0 : Int) - (i : Int) = (q : Int) := by omega
        have w1' : IntKind.i64.wrap ((q0 : Int) - (i : Int)) = (q : Int) := by rw [IntKind.wrap_i64]; omega
        have C := Lib.hid (swapRange_i fv w0 b off N cap L0 D ok wr p q i S1.out hD (by omega) (by omega) hm)
        have R2 := Lib.hid (R1.out.less hlt2)
        rw [← hp, ← hq] at R2
        have hD2 : (swR D p q i).length = N := by rw [swR_len]; exact hD
        clear R1 S1 hp hD hq hq0
        generalize swR D p q i = D2 at *
        go_wp2_with (go_at_call 60; refine C.out.mono ?_; rintro e w1 ⟨rfl, hS⟩)
        go_roundw
        case rel => exact ⟨i, j - i, D2, rfl, by go_num, hi, by omega, him, by omega, hD2, R2, Lib.hid hS⟩
        case measure => simp [intOf]; omega

set_option maxHeartbeats 8000000 in
set_option maxRecDepth 1000000 in
theorem insertion_i (g : FuncId) (cb : Array Value) (cf : Int → Int → Int) (o : Ord (ltC cf)) (w0 : World) (b off N cap : Nat) (L0 L P M R : List Int) (ok : Int → Prop) (w : World) (x y : Nat)
    (eg : ∀ args w, (callFunc g args).run Try.prog w = .ok (.enter g args) w) (hc : CmpX Try.prog g cb .i64 cf w0 b off L0 ok)
    (S : SE .i64 w0 b off L0 ok L w) (hN : L.length = N) (hL : L = P ++ M ++ R) (hP : P.length = x) (hM : x + M.length = y) (hm : N < 4611686018427387904) :
    Calls Try.prog 54 #[.slice (some ⟨b, off, none⟩) N cap, .int .i64 x, .int .i64 y, .func (.func g) #[] cb] w
      fun e w' => e = .returned (.tuple #[]) ∧ SE .i64 w0 b off L0 ok (P ++ isort (ltC cf) M ++ R) w' := by
  have S0 := Lib.hid S; clear S
  have HC := Lib.hid hc; clear hc
  have hyN : y ≤ N := by rw [← hN, hL]; simp; omega
  have hlen : ∀ M' R' : List Int, M'.length + R'.length = M.length → (P ++ isort (ltC cf) M' ++ (R' ++ R)).length = N := fun M' R' h => by rw [← hN, hL]; simp [isort_len o]; omega
  have HLEN := Lib.hid hlen; clear hlen
  have HS := Lib.hid (show InsO (ltC cf) L P (M.take 1) (M.drop 1 ++ R) from by
    unfold InsO
    rw [isort_one _ (by simp; omega), hL, List.append_assoc P, List.append_assoc P, ← List.append_assoc (M.take 1), List.take_append_drop])
  have HP := Lib.hid hP
  have HM := Lib.hid hM
  clear hL hP
  have e1 : IntKind.i64.wrap ((x : Int) + 1) = (x : Int) + 1 := IntWalk.i64_in _ (by omega)
  have hxy : x ≤ y := by omega
  clear hM
  go_enter Try.func54, Try.ntmps54
  go_wp2
  clear e1
  go_loopw [8] (fun vi wr => ∃ (i : Nat) (D : List Int), vi = .int .i64 i ∧ x < i ∧ i ≤ y + 1 ∧ D.length = N ∧ Hid (InsO (ltC cf) D P (M.take (i - x)) (M.drop (i - x) ++ R)) ∧ Hid (SE .i64 w0 b off L0 ok D wr)) (fun vi _ => y + 1 - (intOf vi).toNat)
  case atStart => exact ⟨x + 1, L, by go_num, by omega, by omega, hN, by rw [show x + 1 - x = 1 by omega]; exact HS, S0⟩
  case round =>
    clear S0 HS
    obtain ⟨i, D, rfl, hxi, hiy, hD, HO, S1⟩ := hrel
    by_cases hlt : i < y
    · have hltz : (i : Int) < (y : Int) := by omega
      obtain ⟨z, hz⟩ : ∃ z, M[i - x]? = some z := ⟨_, List.getElem?_eq_getElem (by have := HM.out; omega)⟩
      have HX := Lib.hid (show InsX (ltC cf) D P (M.take (i - x)) (M.drop (i - x + 1) ++ R) z i from by
        have hd : M.drop (i - x) = z :: M.drop (i - x + 1) := by
          have := List.getElem?_eq_some_iff.1 hz
          obtain ⟨h1, h2⟩ := this
          rw [List.drop_eq_getElem_cons h1, h2]
        have h1 := HO.out
        rw [hd] at h1
        refine InsX.start h1 ?_ o
        have := HM.out; have := HP.out
        simp; omega)
      have HT := Lib.hid (take_snoc hz)
      have hpos : i - x + 1 = i + 1 - x := by omega
      rw [hpos] at HX HT
      clear HO hz
      generalize M.take (i - x) = M1 at *
      go_wp2
      go_loopw [9] (fun vj wr2 => ∃ (j : Nat) (Dj : List Int), vj = .int .i64 j ∧ x ≤ j ∧ j ≤ i ∧ Dj.length = N ∧ Hid (InsX (ltC cf) Dj P M1 (M.drop (i + 1 - x) ++ R) z j) ∧ Hid (SE .i64 w0 b off L0 ok Dj wr2)) (fun vj _ => (intOf vj).toNat)
      case atStart => exact ⟨i, D, rfl, by omega, by omega, hD, HX, S1⟩
      case round =>
        clear S1 HX hD
        obtain ⟨j, Dj, rfl, hxj, hji, hDj, HI, SJ⟩ := hrel
        have OUT := Lib.hid (fun (hs : j ≤ x ∨ ltC cf (Dj.getD j 0) (Dj.getD (j - 1) 0) = false) => show InsO (ltC cf) Dj P (M.take (i + 1 - x)) (M.drop (i + 1 - x) ++ R) from by
          rw [HT.out]; exact HI.out.stop o (by rw [HP.out]; exact hs))
        by_cases hja : x < j
        · obtain ⟨q, hq⟩ : ∃ q, q + 1 = j := ⟨j - 1, by omega⟩
          obtain ⟨u, hu⟩ : ∃ u, u = Dj.getD j 0 := ⟨_, rfl⟩
          obtain ⟨v, hv⟩ : ∃ v, v = Dj.getD q 0 := ⟨_, rfl⟩
          have hjN : j < Dj.length := by omega
          have hqN : q < Dj.length := by omega
          have c1 := fun p : Far wr => SJ.out.more p.ext |>.cell hjN
          have c2 := fun p : Far wr => SJ.out.more p.ext |>.cell hqN
          have hcmp := fun p : Far wr => HC.out Dj p.out (SJ.out.more p.ext) u v (by rw [hu]; exact SJ.out.okAt hjN) (by rw [hv]; exact SJ.out.okAt hqN)
          rw [← hu] at c1
          rw [← hv] at c2
          have eq : (j : Int) - 1 = (q : Int) := by omega
          have wq : IntKind.i64.wrap ((j : Int) - 1) = (q : Int) := by rw [IntKind.wrap_i64]; omega
          have wq' : IntKind.i64.wrap (q : Int) = (q : Int) := by rw [IntKind.wrap_i64]; omega
          have bj : (j : Int) < (N : Int) := by omega
          have bq : (q : Int) < (N : Int) := by omega
          have gz : (x : Int) < (j : Int) := by omega
          have gd : decide ((x : Int) < (j : Int)) = true := decide_eq_true gz
          have gd' : decide ((j : Int) > (x : Int)) = true := decide_eq_true gz
          cases hlv : ltC cf u v
          · have hv0 : ¬ cf u v < 0 := of_decide_eq_false hlv
            have hvd : decide (cf u v < 0) = false := decide_eq_false hv0
            have O2 := Lib.hid (OUT.out (Or.inr (by rw [← hu, show j - 1 = q by omega, ← hv]; exact hlv)))
            have hDN := hDj
            clear hu hv OUT HI hlv hq hjN hqN
            go_wp2
            refine wp_region_far (by kernel_rfl) (by kernel_rfl) ?_
            repeat (quiet_step (first | (go_at_fn g; refine Calls.far_of (hcmp _))))
            refine wpQuiet_nil ?_
            intro w2 hw'
            obtain ⟨pf, hw2⟩ := hw'
            have hx2 : Ext wr w2 := by rw [hw2]; exact pf.ext
            clear hw2 pf
            have S2 := Lib.hid (SJ.out.more hx2)
            clear SJ c1 c2 hcmp
            go_wp2
            go_roundw
            case rel => exact ⟨i + 1, Dj, by go_num, by omega, by omega, hDN, O2, S2⟩
            case measure => simp [intOf]; omega
          · have hv0 : cf u v < 0 := of_decide_eq_true hlv
            have hvd : decide (cf u v < 0) = true := decide_eq_true hv0
            have S3 := fun W (e : Ext wr W) => (SJ.out.more e).swap hjN hqN
            rw [← hu, ← hv] at S3
            have k1 := fun W (e : Ext wr W) => (SJ.out.more e).cell hjN
            have k2 := fun W (e : Ext wr W) => (SJ.out.more e).cell hqN
            have f1 := fun W (e : Ext wr W) => (SJ.out.more e).frz hjN
            have f2 := fun W (e : Ext wr W) => (SJ.out.more e).frz hqN
            have k3 := fun W (e : Ext wr W) => (SJ.out.more e).c2 hjN hqN (.int .i64 v)
            rw [← hu] at k1
            rw [← hv] at k2
            have I3 := Lib.hid (show InsX (ltC cf) (sw Dj j q) P M1 (M.drop (i + 1 - x) ++ R) z q from by
              have h1 := HI.out
              rw [← hq] at h1 ⊢
              exact h1.go (by have := HP.out; omega) (by rw [hq, ← hu, ← hv]; exact hlv))
            have hD3 : (sw Dj j q).length = N := by rw [sw_len]; exact hDj
            clear hu hv OUT HI hlv hjN hqN
            generalize sw Dj j q = D3 at *
            go_wp2
            refine wp_region_far (by kernel_rfl) (by kernel_rfl) ?_
            repeat (quiet_step (first | (go_at_fn g; refine Calls.far_of (hcmp _))))
            refine wpQuiet_nil ?_
            intro w2 hw'
            obtain ⟨pf, hw2⟩ := hw'
            have hx2 : Ext wr w2 := by rw [hw2]; exact pf.ext
            clear hw2 pf
            have S4 := Lib.hid (S3 w2 hx2)
            have m1 := k1 w2 hx2
            have m2 := k2 w2 hx2
            have m3 := f1 w2 hx2
            have m4 := f2 w2 hx2
            obtain ⟨t, m5⟩ := k3 w2 hx2
            clear SJ c1 c2 hcmp S3 k1 k2 k3 f1 f2 hx2
            go_wp2
            go_region
            generalize (((w2.setCell ⟨b, off + j, none⟩ (Value.int .i64 v)).setCell ⟨b, off + q, none⟩ (Value.int .i64 u)).drew) = w3 at *
            go_wp2
            go_roundw
            case rel => exact ⟨q, D3, by go_num, by omega, by omega, hD3, I3, S4⟩
            case measure => simp [intOf]; omega
        · have gd : decide ((x : Int) < (j : Int)) = false := decide_eq_false (by omega)
          have gd' : decide ((j : Int) > (x : Int)) = false := decide_eq_false (by omega)
          have gz : ¬ (x : Int) < (j : Int) := by omega
          have O2 := Lib.hid (OUT.out (Or.inl (by omega)))
          clear OUT HI
          go_wp2
          go_region
          have S2 := Lib.hid (SJ.out.more ((Ext.refl _).drew))
          clear SJ
          generalize wr.drew = w2 at *
          go_wp2
          go_roundw
          case rel => exact ⟨i + 1, Dj, by go_num, by omega, by omega, hDj, O2, S2⟩
          case measure => simp [intOf]; omega
    · have HE := HO.out
      have hlen := HM.out
      unfold InsO at HE
      rw [List.take_of_length_le (by omega), List.drop_eq_nil_of_le (by omega)] at HE
      subst HE
      go_wp2
      go_end0
      exact ⟨rfl, S1.out⟩

end Go.Proofs.Ytbcmfebfcoedkaa
