/- Walk: slices' symMergeCmpFunc, its great way, and whole, at runes. -/
import Derived.Test.YtbcmfebfcoedkaaZ5r
import Derived.Deep.DeepCutAuto
namespace Go.Proofs.Ytbcmfebfcoedkaa
open Go.RowKit Go.Sort
set_option linter.unusedVariables false
set_option linter.unusedSimpArgs false

section
variable (g : FuncId) (cb : Array Value) (cf : Int → Int → Int) (o : Ord (ltC cf)) (w0 : World) (b off N cap : Nat) (L0 : List Int) (ok : Int → Prop)
    (eg : ∀ args w, (callFunc g args).run Try.prog w = .ok (.enter g args) w) (hc : CmpX Try.prog g cb .i32 cf w0 b off L0 ok) (hm : N < 4611686018427387904)

/-- what a call of the library's, that turns L into D, does -/
abbrev Doesr (f : FuncId) (x m y : Nat) (L D : List Int) : Prop :=
  ∀ W, SE .i32 w0 b off L0 ok L W → Calls Try.prog f #[.slice (some ⟨b, off, none⟩) N cap, .int .i64 x, .int .i64 m, .int .i64 y, .func (.func g) #[] cb] W
      fun e w' => e = .returned (.tuple #[]) ∧ SE .i32 w0 b off L0 ok D w'

include o hm in
theorem symParts_r (x m y mid p i lo hi : Nat) (L P A B S : List Int) (h1 : x + 1 < m) (h2 : m + 1 < y) (hmid : mid = (x + y) / 2) (hp : p + 1 = mid + m)
    (ih : ∀ x' m' y', y' - x' < y - x → x' < m' → m' < y' → Symr g cb cf w0 b off N cap L0 ok x' m' y') (hL0 : L0.length = N) (hyN : y ≤ N) (hN : L.length = N) (hM : Mg (ltC cf) L x m y P A B S)
    (hlo : lo ≤ hi) (h3 : (mid < m ∧ p + 1 = y + lo ∧ hi = mid) ∨ (¬ mid < m ∧ lo = x ∧ hi = m)) (hB : Bs (fun c => !ltC cf (L.getD (p - c) 0) (L.getD c 0)) lo hi i i) :
    ∃ e D1 D2, e = p + 1 - i ∧ x ≤ i ∧ i ≤ m ∧ i ≤ mid ∧ m ≤ e ∧ mid ≤ e ∧ e ≤ y ∧ (i < m → m < e → Doesr g cb w0 b off N cap L0 ok 59 i m e L D1) ∧ (¬ (i < m ∧ m < e) → L = D1) ∧
      (x < i → i < mid → Doesr g cb w0 b off N cap L0 ok 57 x i mid D1 D2) ∧ (¬ (x < i ∧ i < mid) → D1 = D2) ∧
      (mid < e → e < y → Doesr g cb w0 b off N cap L0 ok 57 mid e y D2 (P ++ isort (ltC cf) (A ++ B) ++ S)) ∧ (¬ (mid < e ∧ e < y) → D2 = P ++ isort (ltC cf) (A ++ B) ++ S) := by
  have g1 : x ≤ lo := by omega
  have g2 : hi ≤ m := by omega
  have g3 : m + hi ≤ p + 1 := by omega
  have g4 : p < y + lo := by omega
  have b1 := hB.a; have b2 := hB.c
  obtain ⟨A1, A2, B1, B2, hA, hBB, l1, l2, l3, l4, hT⟩ := hM.cut o g1 g2 g3 g4 hB (by omega) (by omega)
  have hea := hM.ea
  have sA := hM.sa; have sB := hM.sb
  rw [hA] at sA; rw [hBB] at sB
  have heL : L = P ++ A1 ++ A2 ++ B1 ++ B2 ++ S := by rw [hM.e, hA, hBB]; simp
  refine ⟨p + 1 - i, P ++ A1 ++ B1 ++ A2 ++ B2 ++ S, P ++ isort (ltC cf) (A1 ++ B1) ++ (A2 ++ B2 ++ S), rfl, by omega, by omega, by omega, by omega, by omega, by omega, ?_, ?_, ?_, ?_, ?_, ?_⟩
  · intro k1 k2 W hS
    exact rotate_r _ w0 b off N cap L0 L _ ok W i m (p + 1 - i) hS hN k1 k2 (by omega) hm ⟨P ++ A1, A2, B1, B2 ++ S, by rw [heL]; simp, by omega, by omega, by simp; omega, by simp⟩
  · intro hn
    by_cases hc : i < m
    · have : B1 = [] := List.eq_nil_of_length_eq_zero (by omega)
      rw [heL, this]; simp
    · have : A2 = [] := List.eq_nil_of_length_eq_zero (by omega)
      rw [heL, this]; simp
  · intro k1 k2 W hS
    exact ih x i mid (by omega) k1 k2 _ P A1 B1 (A2 ++ B2 ++ S) W hS (hS.len.trans hL0) ⟨by simp, hea, l1, by omega, sA.left, sB.left⟩
  · intro hn
    have : isort (ltC cf) (A1 ++ B1) = A1 ++ B1 := by
      by_cases hc : i < mid
      · have : A1 = [] := List.eq_nil_of_length_eq_zero (by omega)
        subst this
        exact isort_srt o (by simpa using sB.left)
      · have : B1 = [] := List.eq_nil_of_length_eq_zero (by omega)
        subst this
        exact isort_srt o (by simpa using sA.left)
    rw [this]; simp
  · intro k1 k2 W hS
    have := ih mid (p + 1 - i) y (by omega) k1 k2 _ (P ++ isort (ltC cf) (A1 ++ B1)) A2 B2 S W hS (hS.len.trans hL0) ⟨by simp, by simp [isort_len o]; omega, by omega, by omega, sA.right, sB.right⟩
    rw [List.append_assoc P, hT] at this
    exact this
  · intro hn
    have : isort (ltC cf) (A2 ++ B2) = A2 ++ B2 := by
      by_cases hc : mid < p + 1 - i
      · have : B2 = [] := List.eq_nil_of_length_eq_zero (by omega)
        subst this
        exact isort_srt o (by simpa using sA.right)
      · have : A2 = [] := List.eq_nil_of_length_eq_zero (by omega)
        subst this
        exact isort_srt o (by simpa using sB.right)
    rw [← hT, this]; simp

set_option maxHeartbeats 16000000 in
set_option maxRecDepth 1000000 in
include o eg hc hm in
theorem symGen_r (x m y : Nat) (h1 : x + 1 < m) (h2 : m + 1 < y) (ih : ∀ x' m' y', y' - x' < y - x → x' < m' → m' < y' → Symr g cb cf w0 b off N cap L0 ok x' m' y') : Symr g cb cf w0 b off N cap L0 ok x m y := by
  intro L P A B S w hS hN hM
  have hyN : y ≤ N := by rw [← hN, hM.e]; simp; have := hM.ea; have := hM.em; have := hM.eb; omega
  have hL0 : L0.length = N := by rw [← hS.len]; exact hN
  obtain ⟨mid, hmid⟩ : ∃ q, q = (x + y) / 2 := ⟨_, rfl⟩
  obtain ⟨p, hp⟩ : ∃ q, q + 1 = mid + m := ⟨mid + m - 1, by omega⟩
  have PARTS := Lib.hid (fun i lo hi => symParts_r g cb cf o w0 b off N cap L0 ok hm x m y mid p i lo hi L P A B S h1 h2 hmid hp ih hL0 hyN hN hM)
  obtain ⟨D3, hD3⟩ : ∃ T, T = P ++ isort (ltC cf) (A ++ B) ++ S := ⟨_, rfl⟩
  rw [← hD3] at PARTS ⊢
  clear hD3
  have S0 := Lib.hid hS; clear hS
  have HC := Lib.hid hc; clear hc
  have HM := Lib.hid hM; clear hM
  clear ih hL0
  obtain ⟨d1, hd1⟩ : ∃ d, d = m - x := ⟨_, rfl⟩
  obtain ⟨d2, hd2⟩ : ∃ d, d = y - m := ⟨_, rfl⟩
  obtain ⟨n, hn⟩ : ∃ d, d = mid + m := ⟨_, rfl⟩
  have e0 : (m : Int) - (x : Int) = (d1 : Int) := by omega
  have w00 : IntKind.i64.wrap ((m : Int) - (x : Int)) = (d1 : Int) := by rw [IntKind.wrap_i64]; omega
  have w01 : IntKind.i64.wrap (d1 : Int) = (d1 : Int) := by rw [IntKind.wrap_i64]; omega
  have n1 : ¬ ((d1 : Int) = 1) := by omega
  have n2 : ((d1 : Int) == 1) = false := by simp [n1]
  have n3 : decide ((d1 : Int) = 1) = false := decide_eq_false n1
  have e1 : (y : Int) - (m : Int) = (d2 : Int) := by omega
  have w10 : IntKind.i64.wrap ((y : Int) - (m : Int)) = (d2 : Int) := by rw [IntKind.wrap_i64]; omega
  have w11 : IntKind.i64.wrap (d2 : Int) = (d2 : Int) := by rw [IntKind.wrap_i64]; omega
  have n4 : ¬ ((d2 : Int) = 1) := by omega
  have n5 : ((d2 : Int) == 1) = false := by simp [n4]
  have n6 : decide ((d2 : Int) = 1) = false := decide_eq_false n4
  have e2 : ((x : Int) + (y : Int)) / 2 = (mid : Int) := by omega
  have w20 : IntKind.i64.wrap (mid : Int) = (mid : Int) := by rw [IntKind.wrap_i64]; omega
  have e3 : (mid : Int) + (m : Int) = (n : Int) := by omega
  have w30 : IntKind.i64.wrap ((mid : Int) + (m : Int)) = (n : Int) := by rw [IntKind.wrap_i64]; omega
  have w31 : IntKind.i64.wrap (n : Int) = (n : Int) := by rw [IntKind.wrap_i64]; omega
  have e4 : (n : Int) - 1 = (p : Int) := by omega
  have w40 : IntKind.i64.wrap ((n : Int) - 1) = (p : Int) := by rw [IntKind.wrap_i64]; omega
  have w41 : IntKind.i64.wrap (p : Int) = (p : Int) := by rw [IntKind.wrap_i64]; omega
  have xy : x < y := by omega
  obtain ⟨lo, hi, h3, hlh⟩ : ∃ lo hi, ((mid < m ∧ p + 1 = y + lo ∧ hi = mid) ∨ (¬ mid < m ∧ lo = x ∧ hi = m)) ∧ lo ≤ hi := by
    by_cases hg : mid < m
    · exact ⟨n - y, mid, .inl ⟨hg, by omega, rfl⟩, by omega⟩
    · exact ⟨x, m, .inr ⟨hg, rfl, rfl⟩, by omega⟩
  have g1 : x ≤ lo := by omega
  have g2 : hi ≤ m := by omega
  have g3 : m + hi ≤ p + 1 := by omega
  have g4 : p < y + lo := by omega
  have hpn : p + 1 = n := by omega
  have hmm : (mid : Int) ≤ (y : Int) := by omega
  clear hd1 hd2 hn hmid hp
  go_enter Try.func57, Try.ntmps57
  go_upto_if 140 with fail
  go_cut [20, 21] from 138 (fun s20 s21 wc => s20 = .int .i64 lo ∧ s21 = .int .i64 hi ∧ wc = w)
  case first =>
    rcases h3 with ⟨hg, k1, k2⟩ | ⟨hg, k1, k2⟩
    · have gz : (mid : Int) < (m : Int) := by omega
      have gd : decide ((mid : Int) < (m : Int)) = true := decide_eq_true gz
      have el : (n : Int) - (y : Int) = (lo : Int) := by omega
      have wl : IntKind.i64.wrap ((n : Int) - (y : Int)) = (lo : Int) := by rw [IntKind.wrap_i64]; omega
      have wl' : IntKind.i64.wrap (lo : Int) = (lo : Int) := by rw [IntKind.wrap_i64]; omega
      clear k1
      go_wp2
      go_meet
      case rel => exact ⟨by first | rfl | go_num, by rw [k2], rfl⟩
    · have gz : ¬ (mid : Int) < (m : Int) := by omega
      have gd : decide ((mid : Int) < (m : Int)) = false := decide_eq_false gz
      go_wp2
      go_meet
      case rel => exact ⟨by rw [k1], by rw [k2], rfl⟩
  case rest =>
    obtain ⟨rfl, rfl, rfl⟩ := hcut
    have H3 := Lib.hid h3
    clear h3
    go_wp2
    go_loopw [20, 21] (fun vi vj wr => ∃ i j : Nat, vi = .int .i64 i ∧ vj = .int .i64 j ∧ j ≤ hi ∧ Hid (Bs (fun c => !ltC cf (L.getD (p - c) 0) (L.getD c 0)) lo hi i j) ∧ Hid (SE .i32 w0 b off L0 ok L wr)) (fun vi vj _ => (intOf vj).toNat - (intOf vi).toNat)
    case atStart => exact ⟨lo, hi, by first | rfl | go_num, by first | rfl | go_num, by omega, Lib.hid (Bs.start (by omega)), S0⟩
    case round =>
      obtain ⟨i, j, rfl, rfl, hjh, B1, S1⟩ := hrel
      clear S0
      have hb1 := B1.out.a; have hb2 := B1.out.b
      by_cases hlt : i < j
      · have hltz : (i : Int) < (j : Int) := by omega
        obtain ⟨h, hh⟩ : ∃ h, h = (i + j) / 2 := ⟨_, rfl⟩
        have eh : ((i : Int) + (j : Int)) / 2 = (h : Int) := by omega
        have wh : IntKind.i64.wrap (h : Int) = (h : Int) := by rw [IntKind.wrap_i64]; omega
        have hi1 : i ≤ h := by omega
        have hi2 : h < j := by omega
        clear hh
        obtain ⟨q, hq⟩ : ∃ q, q = p - h := ⟨_, rfl⟩
        have eq : (p : Int) - (h : Int) = (q : Int) := by omega
        have wq : IntKind.i64.wrap ((p : Int) - (h : Int)) = (q : Int) := by rw [IntKind.wrap_i64]; omega
        have wq' : IntKind.i64.wrap (q : Int) = (q : Int) := by rw [IntKind.wrap_i64]; omega
        obtain ⟨u, hu⟩ : ∃ u, u = L.getD q 0 := ⟨_, rfl⟩
        obtain ⟨v, hv⟩ : ∃ v, v = L.getD h 0 := ⟨_, rfl⟩
        have hk1 : q < L.length := by omega
        have hk2 : h < L.length := by omega
        have c1 := fun p : Far wr => SE.cell (S1.out.more p.ext) hk1
        have c2 := fun p : Far wr => SE.cell (S1.out.more p.ext) hk2
        have hcmp := fun p : Far wr => HC.out L p.out (S1.out.more p.ext) u v (by rw [hu]; exact S1.out.okAt hk1) (by rw [hv]; exact S1.out.okAt hk2)
        rw [← hu] at c1
        rw [← hv] at c2
        have b1 : (q : Int) < (N : Int) := by omega
        have b2 : (h : Int) < (N : Int) := by omega
        clear hk1 hk2
        cases hlv : ltC cf u v
        · have hv0 : ¬ cf u v < 0 := of_decide_eq_false hlv
          have hvd : decide (cf u v < 0) = false := decide_eq_false hv0
          have B2 := Lib.hid (B1.out.up (h := h) (HM.out.mono3 o g1 g2 g3 (by omega)) (by omega) (by omega) (by show (!ltC cf (L.getD (p - h) 0) (L.getD h 0)) = _; rw [← hq, ← hu, ← hv, hlv]; rfl))
          clear hu hv B1 hlv hq
          go_wp2
          refine wp_region_far (by kernel_rfl) (by kernel_rfl) ?_
          repeat (quiet_step (first | (go_at_fn g; refine Calls.far_of (hcmp _))))
          refine wpQuiet_nil ?_
          intro w2 hw2
          obtain ⟨pf, hw2⟩ := hw2
          have hx2 : Ext wr w2 := by rw [hw2]; exact pf.ext
          clear hw2 pf
          have S2 := Lib.hid (S1.out.more hx2)
          clear S1 c1 c2 hcmp hx2
          go_wp2
          go_roundw
          case rel => exact ⟨h + 1, j, by first | rfl | go_num, by first | rfl | go_num, by omega, B2, S2⟩
          case measure => simp [intOf]; omega
        · have hv0 :  cf u v < 0 := of_decide_eq_true hlv
          have hvd : decide (cf u v < 0) = true := decide_eq_true hv0
          have B2 := Lib.hid (B1.out.down (h := h) (HM.out.mono3 o g1 g2 g3 (by omega)) (by omega) (by omega) (by show (!ltC cf (L.getD (p - h) 0) (L.getD h 0)) = _; rw [← hq, ← hu, ← hv, hlv]; rfl))
          clear hu hv B1 hlv hq
          go_wp2
          refine wp_region_far (by kernel_rfl) (by kernel_rfl) ?_
          repeat (quiet_step (first | (go_at_fn g; refine Calls.far_of (hcmp _))))
          refine wpQuiet_nil ?_
          intro w2 hw2
          obtain ⟨pf, hw2⟩ := hw2
          have hx2 : Ext wr w2 := by rw [hw2]; exact pf.ext
          clear hw2 pf
          have S2 := Lib.hid (S1.out.more hx2)
          clear S1 c1 c2 hcmp hx2
          go_wp2
          go_roundw
          case rel => exact ⟨i, h, by first | rfl | go_num, by first | rfl | go_num, by omega, B2, S2⟩
          case measure => simp [intOf]; omega
      · have : i = j := by omega
        subst this
        obtain ⟨e, D1, D2, he, x1, x2, x3, x4, x5, x6, pR, nR, p1, n1', p2, n2'⟩ := PARTS.out i lo hi hlh H3.out B1.out
        have CR := Lib.hid pR; have NR := Lib.hid nR; have C1 := Lib.hid p1; have N1 := Lib.hid n1'; have C2 := Lib.hid p2; have N2 := Lib.hid n2'
        clear pR nR p1 n1' p2 n2' B1 PARTS HM H3
        have ee : (n : Int) - (i : Int) = (e : Int) := by omega
        have we : IntKind.i64.wrap ((n : Int) - (i : Int)) = (e : Int) := by rw [IntKind.wrap_i64]; omega
        have we' : IntKind.i64.wrap (e : Int) = (e : Int) := by rw [IntKind.wrap_i64]; omega
        have hem : e + i = n := by omega
        clear he
        by_cases ka : i < m <;> by_cases kb : i < mid <;> by_cases kc : x < i <;> by_cases kd : e < y
        · have k0 := ka
          have q1 : (i : Int) < (m : Int) := by omega
          have q1d : decide ((i : Int) < (m : Int)) = true := decide_eq_true q1
          have q2 : (m : Int) < (e : Int) := by omega
          have q2d : decide ((m : Int) < (e : Int)) = true := decide_eq_true q2
          have q3 : (x : Int) < (i : Int) := by omega
          have q3d : decide ((x : Int) < (i : Int)) = true := decide_eq_true q3
          have q4 : (i : Int) < (mid : Int) := by omega
          have q4d : decide ((i : Int) < (mid : Int)) = true := decide_eq_true q4
          have q5 : (mid : Int) < (e : Int) := by omega
          have q5d : decide ((mid : Int) < (e : Int)) = true := decide_eq_true q5
          have q6 : (e : Int) < (y : Int) := by omega
          have q6d : decide ((e : Int) < (y : Int)) = true := decide_eq_true q6
          go_wp2_with (first
            | (go_at_call 59; ((with_reducible refine (CR.out (by omega) (by omega) _ S1.out).mono ?_); rintro _ w4 ⟨rfl, k4⟩))
            | (go_at_call 57; ((with_reducible refine (C1.out (by omega) (by omega) _ k4).mono ?_); rintro _ w5 ⟨rfl, k5⟩))
            | (go_at_call 57; ((with_reducible refine (C2.out (by omega) (by omega) _ k5).mono ?_); rintro _ w6 ⟨rfl, k6⟩)))
          all_goals go_end0
          all_goals exact ⟨rfl, k6⟩
        · have k0 := ka
          have q1 : (i : Int) < (m : Int) := by omega
          have q1d : decide ((i : Int) < (m : Int)) = true := decide_eq_true q1
          have q2 : (m : Int) < (e : Int) := by omega
          have q2d : decide ((m : Int) < (e : Int)) = true := decide_eq_true q2
          have q3 : (x : Int) < (i : Int) := by omega
          have q3d : decide ((x : Int) < (i : Int)) = true := decide_eq_true q3
          have q4 : (i : Int) < (mid : Int) := by omega
          have q4d : decide ((i : Int) < (mid : Int)) = true := decide_eq_true q4
          have q5 : (mid : Int) < (e : Int) := by omega
          have q5d : decide ((mid : Int) < (e : Int)) = true := decide_eq_true q5
          have q6 : ¬ (e : Int) < (y : Int) := by omega
          have q6d : decide ((e : Int) < (y : Int)) = false := decide_eq_false q6
          go_wp2_with (first
            | (go_at_call 59; ((with_reducible refine (CR.out (by omega) (by omega) _ S1.out).mono ?_); rintro _ w4 ⟨rfl, k4⟩))
            | (go_at_call 57; ((with_reducible refine (C1.out (by omega) (by omega) _ k4).mono ?_); rintro _ w5 ⟨rfl, k5⟩)))
          all_goals go_end0
          all_goals exact ⟨rfl, (N2.out (by omega) ▸ k5)⟩
        · have k0 := ka
          have q1 : (i : Int) < (m : Int) := by omega
          have q1d : decide ((i : Int) < (m : Int)) = true := decide_eq_true q1
          have q2 : (m : Int) < (e : Int) := by omega
          have q2d : decide ((m : Int) < (e : Int)) = true := decide_eq_true q2
          have q3 : ¬ (x : Int) < (i : Int) := by omega
          have q3d : decide ((x : Int) < (i : Int)) = false := decide_eq_false q3
          have q4 : (i : Int) < (mid : Int) := by omega
          have q4d : decide ((i : Int) < (mid : Int)) = true := decide_eq_true q4
          have q5 : (mid : Int) < (e : Int) := by omega
          have q5d : decide ((mid : Int) < (e : Int)) = true := decide_eq_true q5
          have q6 : (e : Int) < (y : Int) := by omega
          have q6d : decide ((e : Int) < (y : Int)) = true := decide_eq_true q6
          go_wp2_with (first
            | (go_at_call 59; ((with_reducible refine (CR.out (by omega) (by omega) _ S1.out).mono ?_); rintro _ w4 ⟨rfl, k4⟩))
            | (go_at_call 57; ((with_reducible refine (C2.out (by omega) (by omega) _ (N1.out (by omega) ▸ k4)).mono ?_); rintro _ w6 ⟨rfl, k6⟩)))
          all_goals go_end0
          all_goals exact ⟨rfl, k6⟩
        · have k0 := ka
          have q1 : (i : Int) < (m : Int) := by omega
          have q1d : decide ((i : Int) < (m : Int)) = true := decide_eq_true q1
          have q2 : (m : Int) < (e : Int) := by omega
          have q2d : decide ((m : Int) < (e : Int)) = true := decide_eq_true q2
          have q3 : ¬ (x : Int) < (i : Int) := by omega
          have q3d : decide ((x : Int) < (i : Int)) = false := decide_eq_false q3
          have q4 : (i : Int) < (mid : Int) := by omega
          have q4d : decide ((i : Int) < (mid : Int)) = true := decide_eq_true q4
          have q5 : (mid : Int) < (e : Int) := by omega
          have q5d : decide ((mid : Int) < (e : Int)) = true := decide_eq_true q5
          have q6 : ¬ (e : Int) < (y : Int) := by omega
          have q6d : decide ((e : Int) < (y : Int)) = false := decide_eq_false q6
          go_wp2_with (first
            | (go_at_call 59; ((with_reducible refine (CR.out (by omega) (by omega) _ S1.out).mono ?_); rintro _ w4 ⟨rfl, k4⟩)))
          all_goals go_end0
          all_goals exact ⟨rfl, (N2.out (by omega) ▸ (N1.out (by omega) ▸ k4))⟩
        · have k0 := ka
          have q1 : (i : Int) < (m : Int) := by omega
          have q1d : decide ((i : Int) < (m : Int)) = true := decide_eq_true q1
          have q2 : ¬ (m : Int) < (e : Int) := by omega
          have q2d : decide ((m : Int) < (e : Int)) = false := decide_eq_false q2
          have q3 : (x : Int) < (i : Int) := by omega
          have q3d : decide ((x : Int) < (i : Int)) = true := decide_eq_true q3
          have q4 : ¬ (i : Int) < (mid : Int) := by omega
          have q4d : decide ((i : Int) < (mid : Int)) = false := decide_eq_false q4
          have q5 : (mid : Int) < (e : Int) := by omega
          have q5d : decide ((mid : Int) < (e : Int)) = true := decide_eq_true q5
          have q6 : (e : Int) < (y : Int) := by omega
          have q6d : decide ((e : Int) < (y : Int)) = true := decide_eq_true q6
          have s4 := S1.out
          rw [NR.out (by omega)] at s4
          go_wp2_with (first
            | (go_at_call 57; ((with_reducible refine (C2.out (by omega) (by omega) _ (N1.out (by omega) ▸ s4)).mono ?_); rintro _ w6 ⟨rfl, k6⟩)))
          all_goals go_end0
          all_goals exact ⟨rfl, k6⟩
        · have k0 := ka
          have q1 : (i : Int) < (m : Int) := by omega
          have q1d : decide ((i : Int) < (m : Int)) = true := decide_eq_true q1
          have q2 : ¬ (m : Int) < (e : Int) := by omega
          have q2d : decide ((m : Int) < (e : Int)) = false := decide_eq_false q2
          have q3 : (x : Int) < (i : Int) := by omega
          have q3d : decide ((x : Int) < (i : Int)) = true := decide_eq_true q3
          have q4 : ¬ (i : Int) < (mid : Int) := by omega
          have q4d : decide ((i : Int) < (mid : Int)) = false := decide_eq_false q4
          have q5 : (mid : Int) < (e : Int) := by omega
          have q5d : decide ((mid : Int) < (e : Int)) = true := decide_eq_true q5
          have q6 : ¬ (e : Int) < (y : Int) := by omega
          have q6d : decide ((e : Int) < (y : Int)) = false := decide_eq_false q6
          have s4 := S1.out
          rw [NR.out (by omega)] at s4
          go_wp2
          all_goals go_end0
          all_goals exact ⟨rfl, (N2.out (by omega) ▸ (N1.out (by omega) ▸ s4))⟩
        · have k0 := ka
          have q1 : (i : Int) < (m : Int) := by omega
          have q1d : decide ((i : Int) < (m : Int)) = true := decide_eq_true q1
          have q2 : ¬ (m : Int) < (e : Int) := by omega
          have q2d : decide ((m : Int) < (e : Int)) = false := decide_eq_false q2
          have q3 : ¬ (x : Int) < (i : Int) := by omega
          have q3d : decide ((x : Int) < (i : Int)) = false := decide_eq_false q3
          have q4 : ¬ (i : Int) < (mid : Int) := by omega
          have q4d : decide ((i : Int) < (mid : Int)) = false := decide_eq_false q4
          have q5 : (mid : Int) < (e : Int) := by omega
          have q5d : decide ((mid : Int) < (e : Int)) = true := decide_eq_true q5
          have q6 : (e : Int) < (y : Int) := by omega
          have q6d : decide ((e : Int) < (y : Int)) = true := decide_eq_true q6
          have s4 := S1.out
          rw [NR.out (by omega)] at s4
          go_wp2_with (first
            | (go_at_call 57; ((with_reducible refine (C2.out (by omega) (by omega) _ (N1.out (by omega) ▸ s4)).mono ?_); rintro _ w6 ⟨rfl, k6⟩)))
          all_goals go_end0
          all_goals exact ⟨rfl, k6⟩
        · have k0 := ka
          have q1 : (i : Int) < (m : Int) := by omega
          have q1d : decide ((i : Int) < (m : Int)) = true := decide_eq_true q1
          have q2 : ¬ (m : Int) < (e : Int) := by omega
          have q2d : decide ((m : Int) < (e : Int)) = false := decide_eq_false q2
          have q3 : ¬ (x : Int) < (i : Int) := by omega
          have q3d : decide ((x : Int) < (i : Int)) = false := decide_eq_false q3
          have q4 : ¬ (i : Int) < (mid : Int) := by omega
          have q4d : decide ((i : Int) < (mid : Int)) = false := decide_eq_false q4
          have q5 : (mid : Int) < (e : Int) := by omega
          have q5d : decide ((mid : Int) < (e : Int)) = true := decide_eq_true q5
          have q6 : ¬ (e : Int) < (y : Int) := by omega
          have q6d : decide ((e : Int) < (y : Int)) = false := decide_eq_false q6
          have s4 := S1.out
          rw [NR.out (by omega)] at s4
          go_wp2
          all_goals go_end0
          all_goals exact ⟨rfl, (N2.out (by omega) ▸ (N1.out (by omega) ▸ s4))⟩
        · have k0 := ka
          have q1 : ¬ (i : Int) < (m : Int) := by omega
          have q1d : decide ((i : Int) < (m : Int)) = false := decide_eq_false q1
          have q2 : (m : Int) < (e : Int) := by omega
          have q2d : decide ((m : Int) < (e : Int)) = true := decide_eq_true q2
          have q3 : (x : Int) < (i : Int) := by omega
          have q3d : decide ((x : Int) < (i : Int)) = true := decide_eq_true q3
          have q4 : (i : Int) < (mid : Int) := by omega
          have q4d : decide ((i : Int) < (mid : Int)) = true := decide_eq_true q4
          have q5 : ¬ (mid : Int) < (e : Int) := by omega
          have q5d : decide ((mid : Int) < (e : Int)) = false := decide_eq_false q5
          have q6 : (e : Int) < (y : Int) := by omega
          have q6d : decide ((e : Int) < (y : Int)) = true := decide_eq_true q6
          have s4 := S1.out
          rw [NR.out (by omega)] at s4
          go_wp2_with (first
            | (go_at_call 57; ((with_reducible refine (C1.out (by omega) (by omega) _ s4).mono ?_); rintro _ w5 ⟨rfl, k5⟩)))
          all_goals go_end0
          all_goals exact ⟨rfl, (N2.out (by omega) ▸ k5)⟩
        · have k0 := ka
          have q1 : ¬ (i : Int) < (m : Int) := by omega
          have q1d : decide ((i : Int) < (m : Int)) = false := decide_eq_false q1
          have q2 : (m : Int) < (e : Int) := by omega
          have q2d : decide ((m : Int) < (e : Int)) = true := decide_eq_true q2
          have q3 : (x : Int) < (i : Int) := by omega
          have q3d : decide ((x : Int) < (i : Int)) = true := decide_eq_true q3
          have q4 : (i : Int) < (mid : Int) := by omega
          have q4d : decide ((i : Int) < (mid : Int)) = true := decide_eq_true q4
          have q5 : ¬ (mid : Int) < (e : Int) := by omega
          have q5d : decide ((mid : Int) < (e : Int)) = false := decide_eq_false q5
          have q6 : ¬ (e : Int) < (y : Int) := by omega
          have q6d : decide ((e : Int) < (y : Int)) = false := decide_eq_false q6
          have s4 := S1.out
          rw [NR.out (by omega)] at s4
          go_wp2_with (first
            | (go_at_call 57; ((with_reducible refine (C1.out (by omega) (by omega) _ s4).mono ?_); rintro _ w5 ⟨rfl, k5⟩)))
          all_goals go_end0
          all_goals exact ⟨rfl, (N2.out (by omega) ▸ k5)⟩
        · have k0 := ka
          have q1 : ¬ (i : Int) < (m : Int) := by omega
          have q1d : decide ((i : Int) < (m : Int)) = false := decide_eq_false q1
          have q2 : (m : Int) < (e : Int) := by omega
          have q2d : decide ((m : Int) < (e : Int)) = true := decide_eq_true q2
          have q3 : ¬ (x : Int) < (i : Int) := by omega
          have q3d : decide ((x : Int) < (i : Int)) = false := decide_eq_false q3
          have q4 : (i : Int) < (mid : Int) := by omega
          have q4d : decide ((i : Int) < (mid : Int)) = true := decide_eq_true q4
          have q5 : ¬ (mid : Int) < (e : Int) := by omega
          have q5d : decide ((mid : Int) < (e : Int)) = false := decide_eq_false q5
          have q6 : (e : Int) < (y : Int) := by omega
          have q6d : decide ((e : Int) < (y : Int)) = true := decide_eq_true q6
          have s4 := S1.out
          rw [NR.out (by omega)] at s4
          go_wp2
          all_goals go_end0
          all_goals exact ⟨rfl, (N2.out (by omega) ▸ (N1.out (by omega) ▸ s4))⟩
        · have k0 := ka
          have q1 : ¬ (i : Int) < (m : Int) := by omega
          have q1d : decide ((i : Int) < (m : Int)) = false := decide_eq_false q1
          have q2 : (m : Int) < (e : Int) := by omega
          have q2d : decide ((m : Int) < (e : Int)) = true := decide_eq_true q2
          have q3 : ¬ (x : Int) < (i : Int) := by omega
          have q3d : decide ((x : Int) < (i : Int)) = false := decide_eq_false q3
          have q4 : (i : Int) < (mid : Int) := by omega
          have q4d : decide ((i : Int) < (mid : Int)) = true := decide_eq_true q4
          have q5 : ¬ (mid : Int) < (e : Int) := by omega
          have q5d : decide ((mid : Int) < (e : Int)) = false := decide_eq_false q5
          have q6 : ¬ (e : Int) < (y : Int) := by omega
          have q6d : decide ((e : Int) < (y : Int)) = false := decide_eq_false q6
          have s4 := S1.out
          rw [NR.out (by omega)] at s4
          go_wp2
          all_goals go_end0
          all_goals exact ⟨rfl, (N2.out (by omega) ▸ (N1.out (by omega) ▸ s4))⟩
        · have k0 := ka
          have q1 : ¬ (i : Int) < (m : Int) := by omega
          have q1d : decide ((i : Int) < (m : Int)) = false := decide_eq_false q1
          have q2 : ¬ (m : Int) < (e : Int) := by omega
          have q2d : decide ((m : Int) < (e : Int)) = false := decide_eq_false q2
          have q3 : (x : Int) < (i : Int) := by omega
          have q3d : decide ((x : Int) < (i : Int)) = true := decide_eq_true q3
          have q4 : ¬ (i : Int) < (mid : Int) := by omega
          have q4d : decide ((i : Int) < (mid : Int)) = false := decide_eq_false q4
          have q5 : ¬ (mid : Int) < (e : Int) := by omega
          have q5d : decide ((mid : Int) < (e : Int)) = false := decide_eq_false q5
          have q6 : (e : Int) < (y : Int) := by omega
          have q6d : decide ((e : Int) < (y : Int)) = true := decide_eq_true q6
          have s4 := S1.out
          rw [NR.out (by omega)] at s4
          go_wp2
          all_goals go_end0
          all_goals exact ⟨rfl, (N2.out (by omega) ▸ (N1.out (by omega) ▸ s4))⟩
        · have k0 := ka
          have q1 : ¬ (i : Int) < (m : Int) := by omega
          have q1d : decide ((i : Int) < (m : Int)) = false := decide_eq_false q1
          have q2 : ¬ (m : Int) < (e : Int) := by omega
          have q2d : decide ((m : Int) < (e : Int)) = false := decide_eq_false q2
          have q3 : (x : Int) < (i : Int) := by omega
          have q3d : decide ((x : Int) < (i : Int)) = true := decide_eq_true q3
          have q4 : ¬ (i : Int) < (mid : Int) := by omega
          have q4d : decide ((i : Int) < (mid : Int)) = false := decide_eq_false q4
          have q5 : ¬ (mid : Int) < (e : Int) := by omega
          have q5d : decide ((mid : Int) < (e : Int)) = false := decide_eq_false q5
          have q6 : ¬ (e : Int) < (y : Int) := by omega
          have q6d : decide ((e : Int) < (y : Int)) = false := decide_eq_false q6
          have s4 := S1.out
          rw [NR.out (by omega)] at s4
          go_wp2
          all_goals go_end0
          all_goals exact ⟨rfl, (N2.out (by omega) ▸ (N1.out (by omega) ▸ s4))⟩
        · have k0 := ka
          have q1 : ¬ (i : Int) < (m : Int) := by omega
          have q1d : decide ((i : Int) < (m : Int)) = false := decide_eq_false q1
          have q2 : ¬ (m : Int) < (e : Int) := by omega
          have q2d : decide ((m : Int) < (e : Int)) = false := decide_eq_false q2
          have q3 : ¬ (x : Int) < (i : Int) := by omega
          have q3d : decide ((x : Int) < (i : Int)) = false := decide_eq_false q3
          have q4 : ¬ (i : Int) < (mid : Int) := by omega
          have q4d : decide ((i : Int) < (mid : Int)) = false := decide_eq_false q4
          have q5 : ¬ (mid : Int) < (e : Int) := by omega
          have q5d : decide ((mid : Int) < (e : Int)) = false := decide_eq_false q5
          have q6 : (e : Int) < (y : Int) := by omega
          have q6d : decide ((e : Int) < (y : Int)) = true := decide_eq_true q6
          have s4 := S1.out
          rw [NR.out (by omega)] at s4
          go_wp2
          all_goals go_end0
          all_goals exact ⟨rfl, (N2.out (by omega) ▸ (N1.out (by omega) ▸ s4))⟩
        · have k0 := ka
          have q1 : ¬ (i : Int) < (m : Int) := by omega
          have q1d : decide ((i : Int) < (m : Int)) = false := decide_eq_false q1
          have q2 : ¬ (m : Int) < (e : Int) := by omega
          have q2d : decide ((m : Int) < (e : Int)) = false := decide_eq_false q2
          have q3 : ¬ (x : Int) < (i : Int) := by omega
          have q3d : decide ((x : Int) < (i : Int)) = false := decide_eq_false q3
          have q4 : ¬ (i : Int) < (mid : Int) := by omega
          have q4d : decide ((i : Int) < (mid : Int)) = false := decide_eq_false q4
          have q5 : ¬ (mid : Int) < (e : Int) := by omega
          have q5d : decide ((mid : Int) < (e : Int)) = false := decide_eq_false q5
          have q6 : ¬ (e : Int) < (y : Int) := by omega
          have q6d : decide ((e : Int) < (y : Int)) = false := decide_eq_false q6
          have s4 := S1.out
          rw [NR.out (by omega)] at s4
          go_wp2
          all_goals go_end0
          all_goals exact ⟨rfl, (N2.out (by omega) ▸ (N1.out (by omega) ▸ s4))⟩

include o eg hc hm in
theorem sym_r : ∀ (d x m y : Nat), y - x < d → x < m → m < y → Symr g cb cf w0 b off N cap L0 ok x m y := by
  intro d
  induction d with
  | zero => intro x m y h; omega
  | succ d ih =>
    intro x m y h h1 h2
    by_cases c1 : x + 1 = m
    · exact symOne_r g cb cf o w0 b off N cap L0 ok eg hc hm x m y c1 h2
    · by_cases c2 : m + 1 = y
      · exact symTwo_r g cb cf o w0 b off N cap L0 ok eg hc hm x m y (by omega) c2
      · exact symGen_r g cb cf o w0 b off N cap L0 ok eg hc hm x m y (by omega) (by omega) fun x' m' y' k => ih x' m' y' (by omega)

end

end Go.Proofs.Ytbcmfebfcoedkaa
