/- Walk: of which texts something may have come, by the document. -/
import Derived.Test.YtfdkbhbnldcbmaaW81
import Derived.Test.YtfdkbhbnldcbmaaW17b
namespace Go.Proofs.Ytfdkbhbnldcbmaa
open Go.RowKit
set_option linter.unusedVariables false
set_option linter.unusedSimpArgs false

section
variable (A : Option Addr) (n c : Nat) (l : List Rule) (B : Option Addr) (m d : Nat) (ds : List Sp) (X : Option Addr) (p q : Nat) (t : List Int) (w : World) (h : Rules w A n c l) (hd : Spans w B m d ds) (ht : Runes w X p q t)
set_option maxRecDepth 100000 in
set_option maxHeartbeats 1600000 in
include h hd ht in
theorem refGuess_no (M : Int) (he : guE l ds t ≠ 0) : Calls Try.prog 47 #[.slice A n c, .slice B m d, .slice X p q, .int .i64 M] w fun e w' => GuessR l ds t M w' e ∧ Ext w w' := by
  have C1 := Lib.hid (refWrongs_any A n c l w h)
  have C3 := Lib.hid (fun W (e : Ext w W) => refCountP_any B m d ds W (hd.ext e))
  have C4 := Lib.hid (fun W (e : Ext w W) => refText_any X p q t W (ht.ext e))
  have HB := Lib.hid (guess_bad (m := M) he)
  by_cases h0 : (wrongRules l).1 = 0
  · rw [(wrongRules_zero h0).1] at C1
    by_cases h2 : wrongSet ds = 0
    · have hcv : countV ds = countL ds := by unfold countV; rw [if_neg (by simpa using h2)]
      rw [hcv, h2] at C3
      by_cases h3 : 5 < countL ds
      · rw [guE3 h0 h2 h3] at HB
        have hn : decide (5 < countL ds) = true := by simpa using h3
        clear h ht hd h0 h2 h3 hcv he
        generalize countL ds = z at *
        go_enter Try.func47, Try.ntmps47
        go_wp2_with (first
          | (go_at_call 32; ((with_reducible refine C1.out.mono ?_); rintro e w1 ⟨rfl, x1⟩; have e1 := x1.alloc (.cells #[.int .i64 0, .int .i64 0] 38)))
          | (go_at_call 59; refine (C3.out _ e1).mono ?_; rintro e w3 ⟨rfl, x3⟩; have e3 := e1.trans x3))
        refine bodyPost_ret (v := .tuple #[.slice none 0 0, .int .i64 5]) (by simp [results, Try.results47, go_sem]) rfl ?_
        exact ⟨GuessR.bad HB.out, e3⟩
      · rw [guE4 h0 h2 h3] at HB he
        have hn : decide (5 < countL ds) = false := by simpa using h3
        have hn2 : (wrongText t != 0) = true := by simpa using he
        clear h ht hd h0 h2 h3 hcv he
        generalize countL ds = z at *
        generalize wrongText t = y at *
        go_enter Try.func47, Try.ntmps47
        go_wp2_with (first
          | (go_at_call 32; ((with_reducible refine C1.out.mono ?_); rintro e w1 ⟨rfl, x1⟩; have e1 := x1.alloc (.cells #[.int .i64 0, .int .i64 0] 38)))
          | (go_at_call 59; refine (C3.out _ e1).mono ?_; rintro e w3 ⟨rfl, x3⟩; have e3 := e1.trans x3)
          | (go_at_call 25; refine (C4.out _ e3).mono ?_; rintro e w4 ⟨rfl, rfl⟩))
        refine bodyPost_ret (v := .tuple #[.slice none 0 0, .int .i64 y]) (by simp [results, Try.results47, go_sem]) rfl ?_
        exact ⟨GuessR.bad HB.out, e3⟩
    · rw [guE2 h0 h2] at HB
      have hn : (wrongSet ds != 0) = true := by simpa using h2
      clear h ht hd h0 h2 he
      generalize wrongSet ds = p1 at *
      go_enter Try.func47, Try.ntmps47
      go_wp2_with (first
        | (go_at_call 32; ((with_reducible refine C1.out.mono ?_); rintro e w1 ⟨rfl, x1⟩; have e1 := x1.alloc (.cells #[.int .i64 0, .int .i64 0] 38)))
        | (go_at_call 59; refine (C3.out _ e1).mono ?_; rintro e w3 ⟨rfl, x3⟩; have e3 := e1.trans x3))
      refine bodyPost_ret (v := .tuple #[.slice none 0 0, .int .i64 p1]) (by simp [results, Try.results47, go_sem]) rfl ?_
      exact ⟨GuessR.bad HB.out, e3⟩
  · rw [guE1 h0] at HB
    have hn : ((wrongRules l).1 != 0) = true := by simpa using h0
    clear h ht hd h0 he
    generalize (wrongRules l).1 = p1 at *
    generalize (wrongRules l).2 = p2 at *
    go_enter Try.func47, Try.ntmps47
    go_wp2_with (first
      | (go_at_call 32; ((with_reducible refine C1.out.mono ?_); rintro e w1 ⟨rfl, x1⟩; have e1 := x1.alloc (.cells #[.int .i64 p1, .int .i64 (p2 : Int)] 38))))
    go_quiet (fail)
    go_wp2
    refine bodyPost_ret (v := .tuple #[.slice none 0 0, .int .i64 p1]) (by simp [results, Try.results47, go_sem]) rfl ?_
    exact ⟨GuessR.bad HB.out, e1.drewN _⟩

set_option maxRecDepth 100000 in
set_option maxHeartbeats 1600000 in
include h hd ht in
theorem refGuess_far (M : Int) (he : guE l ds t = 0) (hM : M < 0 ∨ 5 < M) : Calls Try.prog 47 #[.slice A n c, .slice B m d, .slice X p q, .int .i64 M] w fun e w' => GuessR l ds t M w' e ∧ Ext w w' := by
  have C1 := Lib.hid (refWrongs_any A n c l w h)
  have C3 := Lib.hid (fun W (e : Ext w W) => refCountP_any B m d ds W (hd.ext e))
  have C4 := Lib.hid (fun W (e : Ext w W) => refText_any X p q t W (ht.ext e))
  have HB := Lib.hid (guess_far he hM)
  obtain ⟨h0, h2, h3, h4⟩ := guE_zero he
  rw [(wrongRules_zero h0).1] at C1
  have hcv : countV ds = countL ds := by unfold countV; rw [if_neg (by simpa using h2)]
  rw [hcv, h2] at C3
  rw [h4] at C4
  have hn0 : decide (5 < countL ds) = false := by simp; omega
  clear h ht hd h0 h2 h3 h4 hcv he
  generalize countL ds = z at *
  by_cases h1 : M < 0
  · have hn : decide (M < 0) = true := by simpa using h1
    go_enter Try.func47, Try.ntmps47
    go_wp2_with (first
      | (go_at_call 32; ((with_reducible refine C1.out.mono ?_); rintro e w1 ⟨rfl, x1⟩; have e1 := x1.alloc (.cells #[.int .i64 0, .int .i64 0] 38)))
      | (go_at_call 59; refine (C3.out _ e1).mono ?_; rintro e w3 ⟨rfl, x3⟩; have e3 := e1.trans x3)
      | (go_at_call 25; refine (C4.out _ e3).mono ?_; rintro e w4 ⟨rfl, rfl⟩))
    refine bodyPost_ret (v := .tuple #[.slice none 0 0, .int .i64 3]) (by simp [results, Try.results47, go_sem]) rfl ?_
    exact ⟨GuessR.bad HB.out, e3⟩
  · have hn : decide (M < 0) = false := by simpa using h1
    have hn2 : decide (5 < M) = true := by simp; omega
    clear h1 hM
    go_enter Try.func47, Try.ntmps47
    go_wp2_with (first
      | (go_at_call 32; ((with_reducible refine C1.out.mono ?_); rintro e w1 ⟨rfl, x1⟩; have e1 := x1.alloc (.cells #[.int .i64 0, .int .i64 0] 38)))
      | (go_at_call 59; refine (C3.out _ e1).mono ?_; rintro e w3 ⟨rfl, x3⟩; have e3 := e1.trans x3)
      | (go_at_call 25; refine (C4.out _ e3).mono ?_; rintro e w4 ⟨rfl, rfl⟩))
    refine bodyPost_ret (v := .tuple #[.slice none 0 0, .int .i64 3]) (by simp [results, Try.results47, go_sem]) rfl ?_
    exact ⟨GuessR.bad HB.out, e3⟩

set_option maxRecDepth 100000 in
set_option maxHeartbeats 4000000 in
include h hd ht in
theorem refGuess_main (K : Nat) (he : guE l ds t = 0) (hK : K ≤ 5) : Calls Try.prog 47 #[.slice A n c, .slice B m d, .slice X p q, .int .i64 K] w fun e w' => GuessR l ds t K w' e ∧ Ext w w' := by
  have C1 := Lib.hid (refWrongs_any A n c l w h)
  have C3 := Lib.hid (fun W (e : Ext w W) => refCountP_any B m d ds W (hd.ext e))
  have C4 := Lib.hid (fun W (e : Ext w W) => refText_any X p q t W (ht.ext e))
  have HB := Lib.hid (guess_ok he hK)
  obtain ⟨h0, h2, h3, h4⟩ := guE_zero he
  rw [(wrongRules_zero h0).1] at C1
  have hcv : countV ds = countL ds := by unfold countV; rw [if_neg (by simpa using h2)]
  rw [hcv, h2] at C3
  rw [h4] at C4
  have hn0 : decide (5 < countL ds) = false := by simp; omega
  have hG := good_of h2
  have hNc := units_len (fun x hx => hG.rng x hx)
  have C5 := Lib.hid (fun W (e : Ext w W) => refAll_any B m d ds W (hd.ext e) (fun x hx => hG.rng x hx) (by omega))
  have HRun := Lib.hid (fun W (e : Ext w W) Ax nx cx x (hx : Runes W Ax nx cx x) => refRun_any A n c l Ax nx cx x W (h.ext e) hx)
  unfold RunR at HRun
  have HT := Lib.hid ht
  have HUS : Hid (unitsR ds = (unitsL ds).filter right) := Lib.hid rfl
  obtain ⟨N, hN⟩ : ∃ N, (unitsL ds).length = N := ⟨_, rfl⟩
  have HN := Lib.hid hN
  have hN5 : N ≤ 5 := by omega
  generalize unitsL ds = us0 at *
  have hp := ht.max; unfold maxLen at hp
  have hpc := ht.cap
  clear h hd ht he h0 h2 h3 h4 hG hNc hN hcv
  generalize countL ds = z at *
  go_enter Try.func47, Try.ntmps47
  go_wp2_with (first
    | (go_at_call 32; ((with_reducible refine C1.out.mono ?_); rintro e w1 ⟨rfl, x1⟩; have e1 := x1.alloc (.cells #[.int .i64 0, .int .i64 0] 38)))
    | (go_at_call 59; refine (C3.out _ e1).mono ?_; rintro e w3 ⟨rfl, x3⟩; have e3 := e1.trans x3)
    | (go_at_call 25; refine (C4.out _ e3).mono ?_; rintro e w4 ⟨rfl, rfl⟩)
    | (go_at_call 105
       refine (C5.out _ e3).mono ?_
       rintro e w5 ⟨v5, rfl, o5, x5⟩
       obtain ⟨A5, c5, rfl, s5⟩ := o5.top
       rw [HN.out] at s5 ⊢
       have S5 : Hid (Runes w5 A5 N c5 us0) := Lib.hid s5
       have hc5 := s5.cap
       have hm5 := s5.max
       unfold maxLen at hm5
       have e5 := e3.trans x5
       clear o5 s5))
  go_loopw [14, 56] (fun vU i wr => ∃ k : Nat, k ≤ N ∧ i = .int .i64 k ∧ OwnR rRune 21 1 w5.heap.size wr vU ((us0.take k).filter right) ∧ Ext w5 wr) (fun _ i _ => N - (intOf i).toNat)
  case atStart => exact ⟨0, by omega, rfl, OwnR.nil _ _ _ _ _, Ext.refl _⟩
  case round =>
    obtain ⟨k, hk, rfl, OU, hx⟩ := hrel
    generalize wr = w2 at *
    by_cases hlt : k < N
    · obtain ⟨u, hu⟩ := S5.out.idx hlt
      obtain ⟨bu, offu, rfl, _, hcu, hi1, hi2⟩ := (S5.out.ext hx).rune hu
      have hl := List.length_filter_le right (us0.take k)
      have hl2 : (us0.take k).length ≤ 5 := by rw [List.length_take, HN.out]; omega
      have hl3 : ((us0.take k).filter right).length + 1 ≤ 60000 := by omega
      have HTK : (us0.take (k + 1)).filter right = (us0.take k).filter right ++ [u].filter right := by rw [take_snoc hu, List.filter_append]
      clear hu hl hl2
      cases hr : right u
      · have HQ : Hid ((us0.take (k + 1)).filter right = (us0.take k).filter right) := Lib.hid (by rw [HTK]; simp [hr])
        have HRr := Lib.hid (refRight_any u)
        rw [hr] at HRr
        clear HTK hr
        go_wp2_with (first
          | (go_at_call 106; refine (HRr.out _).mono ?_; rintro e w4 ⟨rfl, rfl⟩))
        go_roundw
        case rel => exact ⟨k + 1, by omega, by go_num, by rw [HQ.out]; exact OU, hx⟩
        case measure => simp [intOf]; omega
      · have HQ : Hid ((us0.take (k + 1)).filter right = (us0.take k).filter right ++ [u]) := Lib.hid (by rw [HTK]; simp [hr])
        have HRr := Lib.hid (refRight_any u)
        rw [hr] at HRr
        clear HTK hr
        go_wp2_with (first
          | (go_at_call 106; refine (HRr.out _).mono ?_; rintro e w4 ⟨rfl, rfl⟩; have e6 := hx.alloc (.cells #[.int .i32 u] 21); have o6 := OU.ext (keep_rune bot) ((Ext.refl w2).alloc (.cells #[.int .i32 u] 21)); have s6 := oneP_new w2 u 21 ⟨hi1, hi2⟩)
          | (at_builtin
             refine wpList_appS T_rune (by omega) rfl (.tmp 62) (.tmp 64) rfl rfl o6 rfl s6 (fun _ _ h => h) one_rune (keep_rune bot) (bot_no _) hl3 e6.size ?_
             intro v7 w7 o7 g7 hat7
             have e7 := e6.app g7 o6))
        go_roundw
        case rel => exact ⟨k + 1, by omega, by go_num, by rw [HQ.out]; exact o7, e7⟩
        case measure => simp [intOf]; omega
    · rw [take_all HN.out (by omega), ← HUS.out] at OU
      have hlU : (unitsR ds).length ≤ 5 := by
        have := List.length_filter_le right us0
        rw [HUS.out]; have := HN.out; omega
      clear HUS C1 C3 C4 C5 HN S5
      obtain ⟨AU, cU, rfl, sU⟩ := OU.top
      have HU : Hid (Runes w2 AU (unitsR ds).length cU (unitsR ds)) := Lib.hid sU
      have hcU := sU.cap; have hmU := sU.max; unfold maxLen at hmU
      clear OU sU
      generalize unitsR ds = us at *
      obtain ⟨U, hU⟩ : ∃ U, us.length = U := ⟨_, rfl⟩
      rw [hU] at HU hcU hlU ⊢
      have HUL := Lib.hid hU
      have hx2 := e5.trans hx
      clear hU
      go_wp2
      go_loopw [17, 18] (fun vO i wr => ∃ j : Nat, j ≤ K + 1 ∧ i = .int .i64 j ∧ RowT 23 w2.heap.size wr vO (gsV l us t j) ∧ Ext w2 wr) (fun _ i _ => K + 1 - (intOf i).toNat)
      case atStart => exact ⟨0, by omega, rfl, RowT.nil _ _ _, Ext.refl _⟩
      case round =>
        obtain ⟨j, hj, rfl, OR, hz⟩ := hrel
        generalize wr = w3 at *
        by_cases hjK : j ≤ K
        · have hM : U ^ j ≤ 3125 := pow_small hlU (by omega)
          have HPM : Hid (∀ r, r ≤ j → U ^ r ≤ 3125) := Lib.hid (fun r hr => pow_small hlU (by omega))
          have hgl := gs_len l us t (by rw [HUL.out]; exact hlU) j (by omega)
          have HLL : Hid ((lvl us j).length = U ^ j) := Lib.hid (by rw [lvl_length, HUL.out])
          have HGS : Hid (gsV l us t (j + 1) = gsV l us t j ++ (lvl us j).filter (comes l t)) := Lib.hid (gs_succ l us t j)
          have HLG : Hid (∀ k, k < U ^ j → (lvl us j)[k]? = some (dig us U j k)) := Lib.hid (fun k hk => by have := lvl_get (us := us) (j := j) (k := k) (by rw [HUL.out]; exact hk); rw [HUL.out] at this; exact this)
          have HUP : Hid (0 < j → U ^ j ≠ 0 → U ≠ 0) := Lib.hid (fun h1 h2 e => h2 (by rw [e]; exact Nat.zero_pow h1))
          generalize lvl us j = L at *
          go_wp2
          generalize hMU : U ^ j = Mn at *
          go_loopw [19, 73] (fun vA i wr => ∃ r P : Nat, r ≤ j ∧ i = .int .i64 r ∧ vA = .int .i64 P ∧ Hid (P = U ^ r) ∧ wr = w3) (fun _ i _ => j - (intOf i).toNat)
          case atStart => exact ⟨0, 1, by omega, rfl, rfl, Lib.hid (by simp), rfl⟩
          case round =>
            obtain ⟨r, P, hr, rfl, rfl, HP, rfl⟩ := hrel
            by_cases hlt : r < j
            · obtain ⟨P1, hP1⟩ : ∃ P1, U ^ (r + 1) = P1 := ⟨_, rfl⟩
              have hw : IntKind.i64.wrap ((P : Int) * (U : Int)) = (P1 : Int) := by
                have h1 := HPM.out (r + 1) (by omega)
                have e : (P : Int) * (U : Int) = (P1 : Int) := by rw [← hP1, Nat.pow_succ, HP.out]; simp
                rw [e, IntWalk.i64_in _ (by omega)]
              have HP1 := Lib.hid hP1.symm
              clear hP1
              go_wp2
              go_roundw
              case rel => exact ⟨r + 1, P1, by omega, by go_num, rfl, HP1, trivial⟩
              case measure => simp [intOf]; omega
            · have hrj : r = j := by omega
              have hPM : P = Mn := by rw [HP.out, hrj, hMU]
              subst hPM
              clear hrj HP hMU
              go_wp2
              go_loopw [17, 20] (fun vO i wr => ∃ k : Nat, k ≤ P ∧ i = .int .i64 k ∧ RowT 23 w2.heap.size wr vO (gsV l us t j ++ (L.take k).filter (comes l t)) ∧ Ext w2 wr) (fun _ i _ => P - (intOf i).toNat)
              case atStart => exact ⟨0, by omega, rfl, by simpa using OR, hz⟩
              case round =>
                obtain ⟨k, hk, rfl, OR', hz'⟩ := hrel
                clear OR hz
                generalize wr = w4 at *
                by_cases hlt2 : k < P
                · have HX : Hid (L[k]? = some (dig us U j k)) := Lib.hid (HLG.out k hlt2)
                  go_wp2
                  go_loopw [21, 22, 87] (fun vX vL i wr => ∃ r Q : Nat, r ≤ j ∧ i = .int .i64 r ∧ Hid (Q = k / U ^ r) ∧ vL = .int .i64 Q ∧ OwnR rRune 21 1 w4.heap.size wr vX (dig us U r k) ∧ Ext w4 wr) (fun _ _ i _ => j - (intOf i).toNat)
                  case atStart => exact ⟨0, k, by omega, rfl, Lib.hid (by simp), rfl, OwnR.nil _ _ _ _ _, Ext.refl _⟩
                  case round =>
                    obtain ⟨r, Q, hr, rfl, HQ, rfl, OX, hv⟩ := hrel
                    generalize wr = w6 at *
                    by_cases hlt3 : r < j
                    · have hU0 : 0 < U := Nat.pos_of_ne_zero (HUP.out (by omega) (by omega))
                      obtain ⟨D, hD⟩ : ∃ D, Q % U = D := ⟨_, rfl⟩
                      obtain ⟨E1, hE1⟩ : ∃ E1, Q / U = E1 := ⟨_, rfl⟩
                      have hmod : (Q : Int) % (U : Int) = (D : Int) := by rw [← hD]; simp
                      have hdiv : (Q : Int) / (U : Int) = (E1 : Int) := by rw [← hE1]; simp
                      have hDU : D < U := by rw [← hD]; exact Nat.mod_lt _ hU0
                      obtain ⟨u, hu⟩ := HU.out.idx hDU
                      obtain ⟨bu, offu, rfl, _, hcu, hi1, hi2⟩ := (HU.out.ext (hz'.trans hv)).rune hu
                      have HDG : Hid (dig us U (r + 1) k = [u] ++ dig us U r k) := Lib.hid (by
                        rw [dig, ← HQ.out, hD, List.getD, hu]; rfl)
                      have HE1 : Hid (E1 = k / U ^ (r + 1)) := Lib.hid (by rw [← hE1, HQ.out, Nat.div_div_eq_div_mul, Nat.pow_succ])
                      obtain ⟨AX, cX, rfl, sX⟩ := OX.top
                      have HXS : Hid (Runes w6 AX (dig us U r k).length cX (dig us U r k)) := Lib.hid sX
                      rw [dig_len] at HXS ⊢
                      have hcX := sX.cap; have hmX := sX.max; unfold maxLen at hmX; rw [dig_len] at hcX
                      have hb1 : [u].length + r ≤ 60000 := by simp; omega
                      have hQk : Q ≤ k := by rw [HQ.out]; exact Nat.div_le_self _ _
                      have hEQ : E1 ≤ Q := by rw [← hE1]; exact Nat.div_le_self _ _
                      clear hu hD hE1 sX OX HQ
                      generalize dig us U r k = dr at *
                      go_wp2_with (first
                        | (at_builtin
                           have e7 := hv.alloc (.cells #[.int .i32 u] 21)
                           have x7 := (Ext.refl w6).alloc (.cells #[.int .i32 u] 21)
                           have o7 : OwnR rRune 21 1 w4.heap.size (w6.alloc (.cells #[.int .i32 u] 21)) (.slice (some ⟨w6.heap.size, 0, none⟩) 1 1) [u] := OwnR.fresh (R := rRune) (e := 21) (sz := 1) (base := w4.heap.size) (w := w6) (l := [u]) (cs := [.int .i32 u]) hv.size (by unfold maxLen; simp) (Enc.sing rfl ⟨rfl, hi1, hi2⟩)
                           refine wpList_appS T_rune (by omega) rfl (.tmp 96) (.tmp 97) rfl rfl o7 rfl (HXS.out.ext x7) (fun _ _ h => h) one_rune (keep_rune bot) (bot_no _) hb1 e7.size ?_
                           intro v9 w9 o9 g9 hat9
                           have e9 := e7.app g9 o7))
                      go_roundw
                      case rel => exact ⟨r + 1, E1, by omega, by go_num, HE1, by go_num, by rw [HDG.out]; exact o9, e9⟩
                      case measure => simp [intOf]; omega
                    · have hrj : r = j := by omega
                      subst hrj
                      obtain ⟨AX, cX, rfl, sX⟩ := OX.sl
                      have HXL : Hid ((dig us U r k).length = r) := Lib.hid (dig_len _ _ _ _)
                      rw [HXL.out] at sX ⊢
                      generalize dig us U r k = x at *
                      have HXT : Hid (SlR rRune 1 (fun i => w4.heap.size ≤ i ∧ i < w6.heap.size) w6 AX r cX x) := Lib.hid (SlR.lt (by omega) sX)
                      have HXS : Hid (Runes w6 AX r cX x) := Lib.hid (sX.mono (fun _ _ h => h) (fun _ _ => trivial))
                      have hcX := sX.cap; have hmX := sX.max; unfold maxLen at hmX
                      have HRx := Lib.hid (HRun.out w6 ((hx2.trans hz').trans hv) AX r cX x HXS.out)
                      have hfl := List.length_filter_le (comes l t) (L.take k)
                      rw [List.length_take, HLL.out] at hfl
                      have hbo : (gsV l us t r ++ (L.take k).filter (comes l t)).length + 1 ≤ 60000 := by rw [List.length_append]; omega
                      have HTK : Hid ((L.take (k + 1)).filter (comes l t) = (L.take k).filter (comes l t) ++ [x].filter (comes l t)) := Lib.hid (by rw [take_snoc HX.out, List.filter_append])
                      have HC : Hid (comes l t x = (decide ((runF l x).1 = 0) && decide ((runAll l x).text = t))) := Lib.hid rfl
                      clear HX sX hfl OX HQ HLG
                      generalize (runAll l x).steps = st at *
                      generalize (runAll l x).put = pt at *
                      generalize (runAll l x).text = tx at *
                      generalize (runF l x).2 = z1 at *
                      generalize (runF l x).1 = y1 at *
                      by_cases hy1 : y1 = 0
                      · subst hy1
                        by_cases htx : tx = t
                        · have HQ : Hid (gsV l us t r ++ (L.take (k + 1)).filter (comes l t) = gsV l us t r ++ (L.take k).filter (comes l t) ++ [x]) := Lib.hid (by
                            rw [HTK.out, ← List.append_assoc]; congr 1; simp [HC.out, htx])
                          have HD : Hid (decide (tx = t) = true) := Lib.hid (decide_eq_true htx)
                          clear htx HTK HC
                          generalize gsV l us t r ++ (L.take k).filter (comes l t) = go at *
                          go_wp2_with (first
                            | (go_at_call 37
                               refine HRx.out.mono ?_
                               rintro e w7 ⟨⟨A1, n1, c1, rfl, hA⟩, x7⟩
                               have d7 := ((Ext.refl w7).alloc (.cells #[.slice A1 n1 c1, .int .i64 st, .int .i64 pt] 45)).alloc (.cells #[.int .i64 0, .int .i64 z1] 38)
                               have e7 := x7.trans d7)
                            | (go_at_call 30
                               refine (Same_any _ _ _ _ _ _ _ _ _ (Runes.ext hA d7) (HT.out.ext (((hx2.trans hz').trans hv).trans e7))).mono ?_
                               rintro e w8 ⟨rfl, x8⟩
                               rw [HD.out]
                               have e8 := e7.trans x8
                               have f9 := (hv.trans e8).alloc (.cells #[.slice AX r cX] 23)
                               have hs2 := hz'.size
                               have hs9 := e8.size
                               obtain ⟨ok, o8, k1, k2, k3⟩ := (OR'.ext f9).more (tk := fun i => w4.heap.size ≤ i ∧ i < w6.heap.size) (fun i hi => ⟨by omega, by simp; omega, fun g hg => by have := OR'.lt g hg; omega⟩)
                               have ts := textG_one 23 (HXT.out.ext (keep_rune _) e8)
                               have hbs := (hz'.trans f9).size)
                            | (at_builtin
                               refine wpList_appS T_textG (by omega) rfl (.tmp 119) (.tmp 121) rfl rfl o8 rfl ts (fun vs x ⟨A, n, c, e, hs⟩ => ⟨A, n, c, e, hs.mono (fun _ _ h => h) k1⟩) (one_sl _ _ _) (keep_sl (keep_rune _)) k3 hbo hbs ?_
                               intro v9 w9 o9 g9 hat9
                               have R9 := RowT.shut o9 k2 k3 g9 hat9
                               have e9 := (hz'.trans f9).app g9 o8))
                          go_roundw
                          case rel => exact ⟨k + 1, by omega, by go_num, by rw [HQ.out]; exact R9, e9⟩
                          case measure => simp [intOf]; omega
                        · have HQ : Hid (gsV l us t r ++ (L.take (k + 1)).filter (comes l t) = gsV l us t r ++ (L.take k).filter (comes l t)) := Lib.hid (by
                            rw [HTK.out]; simp [HC.out, htx])
                          have HD : Hid (decide (tx = t) = false) := Lib.hid (decide_eq_false htx)
                          clear htx HTK HC
                          go_wp2_with (first
                            | (go_at_call 37
                               refine HRx.out.mono ?_
                               rintro e w7 ⟨⟨A1, n1, c1, rfl, hA⟩, x7⟩
                               have d7 := ((Ext.refl w7).alloc (.cells #[.slice A1 n1 c1, .int .i64 st, .int .i64 pt] 45)).alloc (.cells #[.int .i64 0, .int .i64 z1] 38)
                               have e7 := x7.trans d7)
                            | (go_at_call 30
                               refine (Same_any _ _ _ _ _ _ _ _ _ (Runes.ext hA d7) (HT.out.ext (((hx2.trans hz').trans hv).trans e7))).mono ?_
                               rintro e w8 ⟨rfl, x8⟩
                               rw [HD.out]
                               have e8 := e7.trans x8))
                          go_roundw
                          case rel => exact ⟨k + 1, by omega, by go_num, by rw [HQ.out]; exact OR'.ext (hv.trans e8), hz'.trans (hv.trans e8)⟩
                          case measure => simp [intOf]; omega
                      · have HQ : Hid (gsV l us t r ++ (L.take (k + 1)).filter (comes l t) = gsV l us t r ++ (L.take k).filter (comes l t)) := Lib.hid (by
                          rw [HTK.out]; simp [HC.out, hy1])
                        have hn1 : (y1 == 0) = false := by simpa using hy1
                        clear hy1 HTK HC
                        go_wp2_with (first
                          | (go_at_call 37
                             refine HRx.out.mono ?_
                             rintro e w7 ⟨⟨A1, n1, c1, rfl, hA⟩, x7⟩
                             have d7 := ((Ext.refl w7).alloc (.cells #[.slice A1 n1 c1, .int .i64 st, .int .i64 pt] 45)).alloc (.cells #[.int .i64 y1, .int .i64 z1] 38)
                             have e7 := x7.trans d7))
                        go_roundw
                        case rel => exact ⟨k + 1, by omega, by go_num, by rw [HQ.out]; exact OR'.ext (hv.trans e7), hz'.trans (hv.trans e7)⟩
                        case measure => simp [intOf]; omega
                · rw [take_all HLL.out (by omega), ← HGS.out] at OR'
                  go_wp2
                  go_roundw
                  case rel => exact ⟨j + 1, by omega, by go_num, OR', hz'⟩
                  case measure => simp [intOf]; omega
        · have hjK2 : j = K + 1 := by omega
          subst hjK2
          obtain ⟨AO, cO, rfl, sO⟩ := OR.texts
          have HBB := Lib.hid HB.out
          generalize gsV l us t (K + 1) = go at *
          obtain ⟨G, hG⟩ : ∃ G, go.length = G := ⟨_, rfl⟩
          rw [hG] at sO ⊢
          go_wp2
          refine bodyPost_ret (v := .tuple #[.slice AO G cO, .int .i64 0]) (by simp [results, Try.results47, go_sem]) rfl ?_
          exact ⟨⟨AO, G, cO, by rw [HBB.out.1], by rw [HBB.out.2]; exact sO⟩, hx2.trans hz⟩

include h hd ht in
theorem refGuess_any (M : Int) : Calls Try.prog 47 #[.slice A n c, .slice B m d, .slice X p q, .int .i64 M] w fun e w' => GuessR l ds t M w' e ∧ Ext w w' := by
  by_cases he : guE l ds t = 0
  · by_cases hM : M < 0 ∨ 5 < M
    · exact refGuess_far A n c l B m d ds X p q t w h hd ht M he hM
    · obtain ⟨K, rfl⟩ := Int.eq_ofNat_of_zero_le (by omega : 0 ≤ M)
      exact refGuess_main A n c l B m d ds X p q t w h hd ht K he (by omega)
  · exact refGuess_no A n c l B m d ds X p q t w h hd ht M he

end

end Go.Proofs.Ytfdkbhbnldcbmaa
