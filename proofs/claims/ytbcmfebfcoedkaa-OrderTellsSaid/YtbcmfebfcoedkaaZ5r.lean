/- Walk: slices' symMergeCmpFunc, at runes. -/
import Derived.Test.YtbcmfebfcoedkaaZ4r
namespace Go.Proofs.Ytbcmfebfcoedkaa
open Go.RowKit Go.Sort
set_option linter.unusedVariables false
set_option linter.unusedSimpArgs false

/-- what merging from x over m till y does -/
def Symr (g : FuncId) (cb : Array Value) (cf : Int → Int → Int) (w0 : World) (b off N cap : Nat) (L0 : List Int) (ok : Int → Prop) (x m y : Nat) : Prop :=
  ∀ (L P A B S : List Int) (w : World), SE .i32 w0 b off L0 ok L w → L.length = N → Mg (ltC cf) L x m y P A B S →
    Calls Try.prog 57 #[.slice (some ⟨b, off, none⟩) N cap, .int .i64 x, .int .i64 m, .int .i64 y, .func (.func g) #[] cb] w
      fun e w' => e = .returned (.tuple #[]) ∧ SE .i32 w0 b off L0 ok (P ++ isort (ltC cf) (A ++ B) ++ S) w'

section
variable (g : FuncId) (cb : Array Value) (cf : Int → Int → Int) (o : Ord (ltC cf)) (w0 : World) (b off N cap : Nat) (L0 : List Int) (ok : Int → Prop)
    (eg : ∀ args w, (callFunc g args).run Try.prog w = .ok (.enter g args) w) (hc : CmpX Try.prog g cb .i32 cf w0 b off L0 ok) (hm : N < 4611686018427387904)

set_option maxHeartbeats 8000000 in
set_option maxRecDepth 1000000 in
include o eg hc hm in
theorem symOne_r (x m y : Nat) (h1 : x + 1 = m) (h2 : m < y) : Symr g cb cf w0 b off N cap L0 ok x m y := by
  intro L P A B S w hS hN hM
  have S0 := Lib.hid hS; clear hS
  have HC := Lib.hid hc; clear hc
  have hyN : y ≤ N := by rw [← hN, hM.e]; simp; have := hM.ea; have := hM.em; have := hM.eb; omega
  have HM := Lib.hid hM; clear hM
  have e1 : (m : Int) - (x : Int) = 1 := by omega
  have w1 : IntKind.i64.wrap ((m : Int) - (x : Int)) = 1 := by rw [IntKind.wrap_i64]; omega
  go_enter Try.func57, Try.ntmps57
  go_wp2
  clear e1 w1
  go_loopw [10, 11] (fun vi vj wr => ∃ i j : Nat, vi = .int .i64 i ∧ vj = .int .i64 j ∧ j ≤ y ∧ Hid (Bs (fun c => ltC cf (L.getD c 0) (L.getD x 0)) m y i j) ∧ Hid (SE .i32 w0 b off L0 ok L wr)) (fun vi vj _ => (intOf vj).toNat - (intOf vi).toNat)
  case atStart => exact ⟨m, y, by first | rfl | go_num, by first | rfl | go_num, by omega, Lib.hid (Bs.start (by omega)), S0⟩
  case round =>
    obtain ⟨i, j, rfl, rfl, hjh, B1, S1⟩ := hrel
    clear S0
    have hb1 := B1.out.a; have hb2 := B1.out.b
    by_cases hlt : i < j
    · have hltz : (i : Int) < (j : Int) := by omega
      obtain ⟨h, hh⟩ : ∃ h, h = (i + j) / 2 := ⟨_, rfl⟩
      have eh : ((i : Int) + (j : Int)) / 2 = (h : Int) := by omega
      have wh : IntKind.i64.wrap (h : Int) = (h : Int) := by rw [IntKind.wrap_i64]; omega
      have hi1 : i ≤ h := by omega
      have hi2 : h < j := by omega
      clear hh
      obtain ⟨u, hu⟩ : ∃ u, u = L.getD h 0 := ⟨_, rfl⟩
      obtain ⟨v, hv⟩ : ∃ v, v = L.getD x 0 := ⟨_, rfl⟩
      have hk1 : h < L.length := by omega
      have hk2 : x < L.length := by omega
      have c1 := fun p : Far wr => SE.cell (S1.out.more p.ext) hk1
      have c2 := fun p : Far wr => SE.cell (S1.out.more p.ext) hk2
      have hcmp := fun p : Far wr => HC.out L p.out (S1.out.more p.ext) u v (by rw [hu]; exact S1.out.okAt hk1) (by rw [hv]; exact S1.out.okAt hk2)
      rw [← hu] at c1
      rw [← hv] at c2
      have b1 : (h : Int) < (N : Int) := by omega
      have b2 : (x : Int) < (N : Int) := by omega
      clear hk1 hk2
      cases hlv : ltC cf u v
      · have hv0 : ¬ cf u v < 0 := of_decide_eq_false hlv
        have hvd : decide (cf u v < 0) = false := decide_eq_false hv0
        have B2 := Lib.hid (B1.out.down (h := h) (HM.out.mono1 o) (by omega) (by omega) (by show (ltC cf (L.getD h 0) (L.getD x 0)) = _; rw [← hu, ← hv, hlv]))
        clear hu hv B1 hlv
        go_wp2
        refine wp_region_far (by kernel_rfl) (by kernel_rfl) ?_
        repeat (quiet_step (first | (go_at_fn g; refine Calls.far_of (hcmp _))))
        refine wpQuiet_nil ?_
        intro w2 hw2
        obtain ⟨pf, hw2⟩ := hw2
        have hx2 : Ext wr w2 := by rw [hw2]; exact pf.ext
        clear hw2 pf
        have S2 := Lib.hid (S1.out.more hx2)
        clear S1 c1 c2 hcmp hx2
        go_wp2
        go_roundw
        case rel => exact ⟨i, h, by first | rfl | go_num, by first | rfl | go_num, by omega, B2, S2⟩
        case measure => simp [intOf]; omega
      · have hv0 :  cf u v < 0 := of_decide_eq_true hlv
        have hvd : decide (cf u v < 0) = true := decide_eq_true hv0
        have B2 := Lib.hid (B1.out.up (h := h) (HM.out.mono1 o) (by omega) (by omega) (by show (ltC cf (L.getD h 0) (L.getD x 0)) = _; rw [← hu, ← hv, hlv]))
        clear hu hv B1 hlv
        go_wp2
        refine wp_region_far (by kernel_rfl) (by kernel_rfl) ?_
        repeat (quiet_step (first | (go_at_fn g; refine Calls.far_of (hcmp _))))
        refine wpQuiet_nil ?_
        intro w2 hw2
        obtain ⟨pf, hw2⟩ := hw2
        have hx2 : Ext wr w2 := by rw [hw2]; exact pf.ext
        clear hw2 pf
        have S2 := Lib.hid (S1.out.more hx2)
        clear S1 c1 c2 hcmp hx2
        go_wp2
        go_roundw
        case rel => exact ⟨h + 1, j, by first | rfl | go_num, by first | rfl | go_num, by omega, B2, S2⟩
        case measure => simp [intOf]; omega
    · have : i = j := by omega
      subst this
      have hcut := HM.out.one o h1 B1.out
      obtain ⟨z, B1', B2', hB, hmv, hi1, hT⟩ := hcut
      have HT := Lib.hid hT
      have MV := Lib.hid hmv
      clear hT hmv hB HM B1
      obtain ⟨t, ht⟩ : ∃ t, t + 1 = i := ⟨i - 1, by omega⟩
      have et : (i : Int) - 1 = (t : Int) := by omega
      have wt : IntKind.i64.wrap ((i : Int) - 1) = (t : Int) := by rw [IntKind.wrap_i64]; omega
      have wt' : IntKind.i64.wrap (t : Int) = (t : Int) := by rw [IntKind.wrap_i64]; omega
      go_wp2
      go_loopw [13] (fun vk wr => ∃ (k : Nat) (U V D : List Int), vk = .int .i64 k ∧ U ++ V = B1' ∧ k + V.length = t ∧ x ≤ k ∧ D.length = N ∧ Hid (Mv1 D P U V (B2' ++ S) z k) ∧ Hid (SE .i32 w0 b off L0 ok D wr)) (fun vk _ => t - (intOf vk).toNat)
      case atStart => exact ⟨x, [], B1', L, rfl, rfl, by omega, by omega, hN, MV, S1⟩
      case round =>
        clear S1 MV hN
        obtain ⟨k, U, V, D, rfl, hUV, hk, hxk, hD, MV, S1⟩ := hrel
        by_cases hkt : k < t
        · have hktz : (k : Int) < (t : Int) := by omega
          match V, hk with
          | [], hk => exfalso; simp at hk; omega
          | q :: V, hk =>
            have M3 := Lib.hid MV.out.go
            obtain ⟨k1', hk1'⟩ : ∃ r, r = k + 1 := ⟨_, rfl⟩
            rw [← hk1'] at M3
            have ek : (k : Int) + 1 = (k1' : Int) := by omega
            have wk : IntKind.i64.wrap ((k : Int) + 1) = (k1' : Int) := by rw [IntKind.wrap_i64]; omega
            have wk' : IntKind.i64.wrap (k1' : Int) = (k1' : Int) := by rw [IntKind.wrap_i64]; omega
            clear MV
            obtain ⟨u, hu⟩ : ∃ u, u = D.getD k 0 := ⟨_, rfl⟩
            obtain ⟨v, hv⟩ : ∃ v, v = D.getD k1' 0 := ⟨_, rfl⟩
            have hk1 : k < D.length := by omega
            have hk2 : k1' < D.length := by omega
            have S3 := Lib.hid (S1.out.swap hk1 hk2)
            rw [← hu, ← hv] at S3
            have k1 := S1.out.cell hk1
            have k2 := S1.out.cell hk2
            have f1 := S1.out.frz hk1
            have f2 := S1.out.frz hk2
            obtain ⟨z3, k3⟩ := S1.out.c2 hk1 hk2 (.int .i32 v)
            rw [← hu] at k1
            rw [← hv] at k2
            have b1 : (k : Int) < (N : Int) := by omega
            have b2 : (k1' : Int) < (N : Int) := by omega
            have hD3 : (sw D k k1').length = N := by rw [sw_len]; exact hD
            clear hu hv hk1 hk2 S1 hD hk1'
            generalize sw D k k1' = D3 at *
            go_wp2
            go_region
            generalize (((wr.setCell ⟨b, off + k, none⟩ (Value.int .i32 v)).setCell ⟨b, off + k1', none⟩ (Value.int .i32 u)).drew) = w3 at *
            go_wp2
            go_roundw
            case rel => exact ⟨k1', U ++ [q], V, D3, by first | rfl | go_num, by rw [← hUV]; simp, by simp at hk; omega, by omega, hD3, M3, S3⟩
            case measure => simp [intOf]; omega
        · have : V = [] := List.eq_nil_of_length_eq_zero (by omega)
          subst this
          rw [List.append_nil] at hUV
          subst hUV
          have hD' := MV.out.1
          have HT' := HT.out
          go_wp2
          first
            | go_end0
            | ((try simp only [Exit.inBlock, Exit.then]); refine bodyPost_ret (results_none rfl _ _ _) rfl ?_)
          have e2 : P ++ isort (ltC cf) (A ++ B) ++ S = D := by rw [hD', ← HT']; simp
          rw [e2]
          exact ⟨rfl, S1.out⟩

set_option maxHeartbeats 8000000 in
set_option maxRecDepth 1000000 in
include o eg hc hm in
theorem symTwo_r (x m y : Nat) (h1 : x + 1 < m) (h2 : m + 1 = y) : Symr g cb cf w0 b off N cap L0 ok x m y := by
  intro L P A B S w hS hN hM
  have S0 := Lib.hid hS; clear hS
  have HC := Lib.hid hc; clear hc
  have hyN : y ≤ N := by rw [← hN, hM.e]; simp; have := hM.ea; have := hM.em; have := hM.eb; omega
  have HM := Lib.hid hM; clear hM
  obtain ⟨d, hd⟩ : ∃ d, d = m - x := ⟨_, rfl⟩
  have e0 : (m : Int) - (x : Int) = (d : Int) := by omega
  have w0' : IntKind.i64.wrap ((m : Int) - (x : Int)) = (d : Int) := by rw [IntKind.wrap_i64]; omega
  have w0'' : IntKind.i64.wrap (d : Int) = (d : Int) := by rw [IntKind.wrap_i64]; omega
  have hd1 : ¬ ((d : Int) = 1) := by omega
  have hd2 : ((d : Int) == 1) = false := by simp [hd1]
  have hd3 : decide ((d : Int) = 1) = false := decide_eq_false hd1
  have e1 : (y : Int) - (m : Int) = 1 := by omega
  have w1 : IntKind.i64.wrap ((y : Int) - (m : Int)) = 1 := by rw [IntKind.wrap_i64]; omega
  clear hd
  go_enter Try.func57, Try.ntmps57
  go_wp2
  clear e1 w1 e0 w0' w0''
  go_loopw [14, 15] (fun vi vj wr => ∃ i j : Nat, vi = .int .i64 i ∧ vj = .int .i64 j ∧ j ≤ m ∧ Hid (Bs (fun c => !ltC cf (L.getD m 0) (L.getD c 0)) x m i j) ∧ Hid (SE .i32 w0 b off L0 ok L wr)) (fun vi vj _ => (intOf vj).toNat - (intOf vi).toNat)
  case atStart => exact ⟨x, m, by first | rfl | go_num, by first | rfl | go_num, by omega, Lib.hid (Bs.start (by omega)), S0⟩
  case round =>
    obtain ⟨i, j, rfl, rfl, hjh, B1, S1⟩ := hrel
    clear S0
    have hb1 := B1.out.a; have hb2 := B1.out.b
    by_cases hlt : i < j
    · have hltz : (i : Int) < (j : Int) := by omega
      obtain ⟨h, hh⟩ : ∃ h, h = (i + j) / 2 := ⟨_, rfl⟩
      have eh : ((i : Int) + (j : Int)) / 2 = (h : Int) := by omega
      have wh : IntKind.i64.wrap (h : Int) = (h : Int) := by rw [IntKind.wrap_i64]; omega
      have hi1 : i ≤ h := by omega
      have hi2 : h < j := by omega
      clear hh
      obtain ⟨u, hu⟩ : ∃ u, u = L.getD m 0 := ⟨_, rfl⟩
      obtain ⟨v, hv⟩ : ∃ v, v = L.getD h 0 := ⟨_, rfl⟩
      have hk1 : m < L.length := by omega
      have hk2 : h < L.length := by omega
      have c1 := fun p : Far wr => SE.cell (S1.out.more p.ext) hk1
      have c2 := fun p : Far wr => SE.cell (S1.out.more p.ext) hk2
      have hcmp := fun p : Far wr => HC.out L p.out (S1.out.more p.ext) u v (by rw [hu]; exact S1.out.okAt hk1) (by rw [hv]; exact S1.out.okAt hk2)
      rw [← hu] at c1
      rw [← hv] at c2
      have b1 : (m : Int) < (N : Int) := by omega
      have b2 : (h : Int) < (N : Int) := by omega
      clear hk1 hk2
      cases hlv : ltC cf u v
      · have hv0 : ¬ cf u v < 0 := of_decide_eq_false hlv
        have hvd : decide (cf u v < 0) = false := decide_eq_false hv0
        have B2 := Lib.hid (B1.out.up (h := h) (HM.out.mono2 o) (by omega) (by omega) (by show (!ltC cf (L.getD m 0) (L.getD h 0)) = _; rw [← hu, ← hv, hlv]; rfl))
        clear hu hv B1 hlv
        go_wp2
        refine wp_region_far (by kernel_rfl) (by kernel_rfl) ?_
        repeat (quiet_step (first | (go_at_fn g; refine Calls.far_of (hcmp _))))
        refine wpQuiet_nil ?_
        intro w2 hw2
        obtain ⟨pf, hw2⟩ := hw2
        have hx2 : Ext wr w2 := by rw [hw2]; exact pf.ext
        clear hw2 pf
        have S2 := Lib.hid (S1.out.more hx2)
        clear S1 c1 c2 hcmp hx2
        go_wp2
        go_roundw
        case rel => exact ⟨h + 1, j, by first | rfl | go_num, by first | rfl | go_num, by omega, B2, S2⟩
        case measure => simp [intOf]; omega
      · have hv0 :  cf u v < 0 := of_decide_eq_true hlv
        have hvd : decide (cf u v < 0) = true := decide_eq_true hv0
        have B2 := Lib.hid (B1.out.down (h := h) (HM.out.mono2 o) (by omega) (by omega) (by show (!ltC cf (L.getD m 0) (L.getD h 0)) = _; rw [← hu, ← hv, hlv]; rfl))
        clear hu hv B1 hlv
        go_wp2
        refine wp_region_far (by kernel_rfl) (by kernel_rfl) ?_
        repeat (quiet_step (first | (go_at_fn g; refine Calls.far_of (hcmp _))))
        refine wpQuiet_nil ?_
        intro w2 hw2
        obtain ⟨pf, hw2⟩ := hw2
        have hx2 : Ext wr w2 := by rw [hw2]; exact pf.ext
        clear hw2 pf
        have S2 := Lib.hid (S1.out.more hx2)
        clear S1 c1 c2 hcmp hx2
        go_wp2
        go_roundw
        case rel => exact ⟨i, h, by first | rfl | go_num, by first | rfl | go_num, by omega, B2, S2⟩
        case measure => simp [intOf]; omega
    · have : i = j := by omega
      subst this
      have hcut := HM.out.two o h2 B1.out
      obtain ⟨z, A1', A2', hA, hmv, hi1, hT⟩ := hcut
      have HT := Lib.hid hT
      have MV := Lib.hid hmv
      have hP := HM.out.ea
      have hl : A2'.length = m - i := by have := HM.out.em; rw [hA] at this; simp at this; omega
      clear hT hmv hA HM B1
      have him : i ≤ m := by omega
      go_wp2
      go_loopw [17] (fun vk wr => ∃ (k : Nat) (U V D : List Int), vk = .int .i64 k ∧ U ++ V = A2' ∧ i + U.length = k ∧ k ≤ m ∧ D.length = N ∧ Hid (Mv2 D (P ++ A1') U V S z k) ∧ Hid (SE .i32 w0 b off L0 ok D wr)) (fun vk _ => (intOf vk).toNat)
      case atStart => exact ⟨m, A2', [], L, rfl, by simp, by omega, by omega, hN, MV, S1⟩
      case round =>
        clear S1 MV hN
        obtain ⟨k, U, V, D, rfl, hUV, hk, hxk, hD, MV, S1⟩ := hrel
        by_cases hkt : i < k
        · have hktz : (i : Int) < (k : Int) := by omega
          have hne : U ≠ [] := fun e => by rw [e] at hk; simp at hk; omega
          obtain ⟨U0, q, rfl⟩ : ∃ U0 q, U = U0 ++ [q] := ⟨_, _, (List.dropLast_concat_getLast hne).symm⟩
          obtain ⟨k1', hk1'⟩ : ∃ r, r + 1 = k := ⟨k - 1, by omega⟩
          have M3 := Lib.hid (show Mv2 (sw D k k1') (P ++ A1') U0 (q :: V) S z k1' from by
            have := MV.out
            rw [← hk1'] at this ⊢
            exact this.go)
          have ek : (k : Int) - 1 = (k1' : Int) := by omega
          have wk : IntKind.i64.wrap ((k : Int) - 1) = (k1' : Int) := by rw [IntKind.wrap_i64]; omega
          have wk' : IntKind.i64.wrap (k1' : Int) = (k1' : Int) := by rw [IntKind.wrap_i64]; omega
          clear MV hne
          obtain ⟨u, hu⟩ : ∃ u, u = D.getD k 0 := ⟨_, rfl⟩
          obtain ⟨v, hv⟩ : ∃ v, v = D.getD k1' 0 := ⟨_, rfl⟩
          have hk1 : k < D.length := by omega
          have hk2 : k1' < D.length := by omega
          have S3 := Lib.hid (S1.out.swap hk1 hk2)
          rw [← hu, ← hv] at S3
          have k1 := S1.out.cell hk1
          have k2 := S1.out.cell hk2
          have f1 := S1.out.frz hk1
          have f2 := S1.out.frz hk2
          obtain ⟨z3, k3⟩ := S1.out.c2 hk1 hk2 (.int .i32 v)
          rw [← hu] at k1
          rw [← hv] at k2
          have b1 : (k : Int) < (N : Int) := by omega
          have b2 : (k1' : Int) < (N : Int) := by omega
          have hD3 : (sw D k k1').length = N := by rw [sw_len]; exact hD
          clear hu hv hk1 hk2 S1 hD hk1'
          generalize sw D k k1' = D3 at *
          go_wp2
          go_region
          generalize (((wr.setCell ⟨b, off + k, none⟩ (Value.int .i32 v)).setCell ⟨b, off + k1', none⟩ (Value.int .i32 u)).drew) = w3 at *
          go_wp2
          go_roundw
          case rel => exact ⟨k1', U0, q :: V, D3, by first | rfl | go_num, by rw [← hUV]; simp, by simp at hk; omega, by omega, hD3, M3, S3⟩
          case measure => simp [intOf]; omega
        · have : U = [] := List.eq_nil_of_length_eq_zero (by omega)
          subst this
          rw [List.nil_append] at hUV
          subst hUV
          have hD' := MV.out.1
          have HT' := HT.out
          go_wp2
          first
            | go_end0
            | ((try simp only [Exit.inBlock, Exit.then]); refine bodyPost_ret (results_none rfl _ _ _) rfl ?_)
          have e2 : P ++ isort (ltC cf) (A ++ B) ++ S = D := by rw [hD', ← HT']; simp
          rw [e2]
          exact ⟨rfl, S1.out⟩

end

end Go.Proofs.Ytbcmfebfcoedkaa
