/- Walk: of which texts something may have come. -/
import Derived.Test.YtfdkbhbnldcbmaaW80
import Derived.Test.YtfdkbhbnldcbmaaW16b
import Derived.Test.YtfdkbhbnldcbmaaLibR
namespace Go.Proofs.Ytfdkbhbnldcbmaa
open Go.RowKit
set_option linter.unusedVariables false
set_option linter.unusedSimpArgs false

/-- what Guess hands back -/
def GuessR (l : List Rule) (ds : List Sp) (t : List Int) (m : Int) (w' : World) (e : Ending) : Prop :=
  ∃ A n c, e = .returned (.tuple #[.slice A n c, .int .i64 (guessE l ds t m)]) ∧ Texts w' A n c (guessV l ds t m)
theorem GuessR.bad {l : List Rule} {ds : List Sp} {t : List Int} {m x : Int} {w' : World} (h : guessE l ds t m = x ∧ guessV l ds t m = []) : GuessR l ds t m w' (.returned (.tuple #[.slice none 0 0, .int .i64 x])) := by
  obtain ⟨rfl, h2⟩ := h
  exact ⟨none, 0, 0, rfl, by rw [h2]; exact SlR.nil _ _ _ _ _ _ (by unfold maxLen; omega)⟩
/-- a level's texts lie within a range, clear of the row that is being filled -/
def LevT (w : World) (vO : Value) (a b : Nat) (A : Option Addr) (n c : Nat) (L : List (List Int)) : Prop :=
  b ≤ w.heap.size ∧ SlR (rSl rRune 1 (rng a b)) 1 (rng a b) w A n c L ∧ (∀ g, vO.ownBlock = some g → g < a ∨ b ≤ g)
theorem LevT.ext {w w' : World} {vO : Value} {a b : Nat} {A : Option Addr} {n c : Nat} {L : List (List Int)} (h : LevT w vO a b A n c L) (x : Ext w w') : LevT w' vO a b A n c L :=
  ⟨Nat.le_trans h.1 x.size, h.2.1.ext (keep_sl (keep_rune _)) x, h.2.2⟩
theorem LevT.app {w w' : World} {vO v' : Value} {a b : Nat} {A : Option Addr} {n c : Nat} {L : List (List Int)} (h : LevT w vO a b A n c L) (hg : w.grownBy w' vO.ownBlock) (hat : v'.ownBlock = vO.ownBlock ∨ v'.ownBlock = some w.heap.size) : LevT w' v' a b A n c L := by
  refine ⟨Nat.le_trans h.1 hg.size, h.2.1.keep (keep_sl (keep_rune _)) (grown_agree hg (fun g hgo hr => by have := h.2.2 g hgo; unfold rng at hr; omega)), fun g hgo => ?_⟩
  rcases hat with e1 | e1
  · exact h.2.2 g (e1 ▸ hgo)
  · rw [e1] at hgo; cases hgo; exact .inr h.1

section
variable (A : Option Addr) (n c : Nat) (l : List Rule) (B : Option Addr) (m d : Nat) (ds : List Sp) (X : Option Addr) (p q : Nat) (t : List Int) (w : World) (h : Rules w A n c l) (hd : Spans w B m d ds) (ht : Runes w X p q t)
set_option maxRecDepth 100000 in
set_option maxHeartbeats 1600000 in
include h hd ht in
theorem guess_no (M : Int) (he : guE l ds t ≠ 0) : Calls Try.prog 46 #[.slice A n c, .slice B m d, .slice X p q, .int .i64 M] w fun e w' => GuessR l ds t M w' e ∧ Ext w w' := by
  have C1 := Lib.hid (guessWrong_any A n c l B m d ds X p q t w h hd ht)
  unfold WrongR at C1
  have HB := Lib.hid (guess_bad (m := M) he)
  have hn : (guE l ds t != 0) = true := by simpa using he
  clear h hd ht he
  generalize guE l ds t = y at *
  go_enter Try.func46, Try.ntmps46
  go_wp2_with (first
    | (go_at_call 103; refine C1.out.mono ?_; rintro e w1 ⟨⟨z, rfl, _⟩, x1⟩))
  refine bodyPost_ret (v := .tuple #[.slice none 0 0, .int .i64 y]) (by simp [results, Try.results46, go_sem]) rfl ?_
  exact ⟨GuessR.bad HB.out, x1⟩

set_option maxRecDepth 100000 in
set_option maxHeartbeats 1600000 in
include h hd ht in
theorem guess_far_any (M : Int) (he : guE l ds t = 0) (hM : M < 0 ∨ 5 < M) : Calls Try.prog 46 #[.slice A n c, .slice B m d, .slice X p q, .int .i64 M] w fun e w' => GuessR l ds t M w' e ∧ Ext w w' := by
  have C1 := Lib.hid (guessWrong_any A n c l B m d ds X p q t w h hd ht)
  unfold WrongR at C1
  have HB := Lib.hid (guess_far he hM)
  rw [he] at C1
  clear h hd ht he
  by_cases h1 : M < 0
  · have hn : decide (M < 0) = true := by simpa using h1
    go_enter Try.func46, Try.ntmps46
    go_wp2_with (first
      | (go_at_call 103; refine C1.out.mono ?_; rintro e w1 ⟨⟨z, rfl, _⟩, x1⟩))
    refine bodyPost_ret (v := .tuple #[.slice none 0 0, .int .i64 3]) (by simp [results, Try.results46, go_sem]) rfl ?_
    exact ⟨GuessR.bad HB.out, x1⟩
  · have hn : decide (M < 0) = false := by simpa using h1
    have hn2 : decide (5 < M) = true := by simp; omega
    clear h1 hM
    go_enter Try.func46, Try.ntmps46
    go_wp2_with (first
      | (go_at_call 103; refine C1.out.mono ?_; rintro e w1 ⟨⟨z, rfl, _⟩, x1⟩))
    refine bodyPost_ret (v := .tuple #[.slice none 0 0, .int .i64 3]) (by simp [results, Try.results46, go_sem]) rfl ?_
    exact ⟨GuessR.bad HB.out, x1⟩

set_option maxRecDepth 100000 in
set_option maxHeartbeats 4000000 in
include h hd ht in
theorem guess_main (K : Nat) (he : guE l ds t = 0) (hK : K ≤ 5) : Calls Try.prog 46 #[.slice A n c, .slice B m d, .slice X p q, .int .i64 K] w fun e w' => GuessR l ds t K w' e ∧ Ext w w' := by
  have C1 := Lib.hid (guessWrong_any A n c l B m d ds X p q t w h hd ht)
  unfold WrongR at C1
  have HB := Lib.hid (guess_ok he hK)
  rw [he] at C1
  obtain ⟨h0, h2, h3, h4⟩ := guE_zero he
  have hG := good_of h2
  have hNc := units_len (fun x hx => hG.rng x hx)
  have HNT : Hid (∀ (k : Nat) (u : Int), (unitsL ds)[k]? = some u → nthL ds (k : Int) = (u, 0) ∧ 0 ≤ u ∧ u ≤ 1114111) := Lib.hid (fun k u hu => by
    refine ⟨?_, units_rng (fun x hx => hG.rng x hx) (List.mem_of_getElem? hu)⟩
    unfold nthL
    rw [if_neg (by rw [h2]; simp), if_neg (by omega)]
    exact units_nth (fun x hx => hG.rng x hx) hu)
  have HNth := Lib.hid (fun (k : Nat) (hk : k ≤ 40) W (e : Ext w W) => Nth_any B m d ds (k : Int) W (hd.ext e) (by unfold i64; omega))
  have HRun := Lib.hid (fun W (e : Ext w W) Ax nx cx x (hx : Runes W Ax nx cx x) => Run_any A n c l Ax nx cx x W (h.ext e) hx)
  unfold RunR at HRun
  have HT := Lib.hid ht
  have HUS : Hid (unitsR ds = (unitsL ds).filter right) := Lib.hid rfl
  rw [← hNc] at C1 h3
  obtain ⟨N, hN⟩ : ∃ N, (unitsL ds).length = N := ⟨_, rfl⟩
  have HN := Lib.hid hN
  rw [hN] at C1 h3
  generalize unitsL ds = us0 at *
  have hN5 : N ≤ 5 := by omega
  have hp := ht.max; unfold maxLen at hp
  have hpc := ht.cap
  clear h hd ht he h0 h2 h3 h4 hG hNc hN
  go_enter Try.func46, Try.ntmps46
  go_wp2_with (first
    | (go_at_call 103; refine C1.out.mono ?_; rintro e w1 ⟨⟨z, rfl, hz⟩, x1⟩; obtain rfl := hz rfl; clear hz))
  go_loopw [12, 45] (fun vU i wr => ∃ k : Nat, k ≤ N ∧ i = .int .i64 k ∧ OwnR rRune 21 1 w.heap.size wr vU ((us0.take k).filter right) ∧ Ext w wr) (fun _ i _ => N - (intOf i).toNat)
  case atStart => exact ⟨0, by omega, rfl, OwnR.nil _ _ _ _ _, x1⟩
  case round =>
    obtain ⟨k, hk, rfl, OU, hx⟩ := hrel
    generalize wr = w2 at *
    by_cases hlt : k < N
    · obtain ⟨u, hu⟩ : ∃ u, us0[k]? = some u := ⟨us0[k]'(by rw [HN.out]; exact hlt), List.getElem?_eq_getElem _⟩
      obtain ⟨hnt, hu0, hu1⟩ := HNT.out k u hu
      have hui : i32 u := by unfold i32; omega
      have HNk := Lib.hid (HNth.out k (by omega) w2 hx)
      rw [hnt] at HNk
      have hl := List.length_filter_le right (us0.take k)
      have hl2 : (us0.take k).length ≤ 5 := by rw [List.length_take, HN.out]; omega
      have hl3 : ((us0.take k).filter right).length + 1 ≤ 60000 := by omega
      have HTK : (us0.take (k + 1)).filter right = (us0.take k).filter right ++ [u].filter right := by rw [take_snoc hu, List.filter_append]
      clear hnt hu hl hl2
      cases hr : right u
      · have HQ : Hid ((us0.take (k + 1)).filter right = (us0.take k).filter right) := Lib.hid (by rw [HTK]; simp [hr])
        have HRr := Lib.hid (Right_any u)
        rw [hr] at HRr
        clear HTK hr
        go_wp2_with (first
          | (go_at_call 60; refine HNk.out.mono ?_; rintro e w3 ⟨rfl, x3⟩)
          | (go_at_call 86; refine (HRr.out _).mono ?_; rintro e w4 ⟨rfl, rfl⟩))
        go_roundw
        case rel => exact ⟨k + 1, by omega, by go_num, by rw [HQ.out]; exact OU.ext (keep_rune bot) x3, hx.trans x3⟩
        case measure => simp [intOf]; omega
      · have HQ : Hid ((us0.take (k + 1)).filter right = (us0.take k).filter right ++ [u]) := Lib.hid (by rw [HTK]; simp [hr])
        have HRr := Lib.hid (Right_any u)
        rw [hr] at HRr
        clear HTK hr
        go_wp2_with (first
          | (go_at_call 60; refine HNk.out.mono ?_; rintro e w3 ⟨rfl, x3⟩)
          | (go_at_call 86; refine (HRr.out _).mono ?_; rintro e w4 ⟨rfl, rfl⟩; have e5 := (hx.trans x3).alloc (.cells #[.int .i32 u] 21); have o5 := (OU.ext (keep_rune bot) x3).ext (keep_rune bot) ((Ext.refl w3).alloc (.cells #[.int .i32 u] 21)); have s5 := oneP_new w3 u 21 hui)
          | (at_builtin
             refine wpList_appS T_rune (by omega) rfl (.tmp 56) (.tmp 58) rfl rfl o5 rfl s5 (fun _ _ h => h) one_rune (keep_rune bot) (bot_no _) hl3 e5.size ?_
             intro v7 w7 o7 g7 hat7
             have e7 := e5.app g7 o5))
        go_roundw
        case rel => exact ⟨k + 1, by omega, by go_num, by rw [HQ.out]; exact o7, e7⟩
        case measure => simp [intOf]; omega
    · rw [take_all HN.out (by omega), ← HUS.out] at OU
      have hlU : (unitsR ds).length ≤ 5 := by
        have := List.length_filter_le right us0
        rw [HUS.out]; have := HN.out; omega
      clear HUS HNT HNth C1 HN
      obtain ⟨AU, cU, rfl, sU⟩ := OU.top
      have HU : Hid (Runes w2 AU (unitsR ds).length cU (unitsR ds)) := Lib.hid sU
      have hcU := sU.cap; have hmU := sU.max; unfold maxLen at hmU
      clear OU sU
      generalize unitsR ds = us at *
      obtain ⟨U, hU⟩ : ∃ U, us.length = U := ⟨_, rfl⟩
      have HUL := Lib.hid hU
      rw [hU] at HU hcU hlU ⊢
      clear hU
      have HL0 : Hid (lvl us 0 = [[]]) := Lib.hid rfl
      have LV0 := Lib.hid (level_zero w2 23)
      go_wp2
      go_loopw [16, 17, 18] (fun vO vL i wr => ∃ (j a b : Nat) (AL : Option Addr) (cL : Nat), j ≤ K ∧ i = .int .i64 j ∧ vL = .slice AL (U ^ j) cL ∧ RowT 23 w2.heap.size wr vO (gsV l us t j) ∧ LevT wr vO a b AL (U ^ j) cL (lvl us j) ∧ Ext w2 wr) (fun _ _ i _ => K - (intOf i).toNat)
      case atStart => exact ⟨0, w2.heap.size, w2.heap.size + 1, _, 1, by omega, rfl, rfl, RowT.nil _ _ _, ⟨by simp, LV0.out, fun g hg => by simp [Value.ownBlock] at hg⟩, (Ext.refl w2).alloc _⟩
      case round =>
        obtain ⟨j, a, b, AL, cL, hj, rfl, rfl, OR, LT, hz⟩ := hrel
        generalize wr = w3 at *
        have hM : U ^ j ≤ 3125 := pow_small hlU (by omega)
        have hgl := gs_len l us t (by rw [HUL.out]; exact hlU) j (by omega)
        have hLc := LT.2.1.cap
        have hLm := LT.2.1.max
        unfold maxLen at hLm
        have HLL : Hid ((lvl us j).length = U ^ j) := Lib.hid (by rw [lvl_length, HUL.out])
        have HLM : Hid (∀ x ∈ lvl us j, x.length = j) := Lib.hid (fun x hx => lvl_mem_len us j hx)
        have HGS : Hid (gsV l us t (j + 1) = gsV l us t j ++ (lvl us j).filter (comes l t)) := Lib.hid (gs_succ l us t j)
        have HLS : Hid (lvl us (j + 1) = nxt us (lvl us j)) := Lib.hid (lvl_succ us j)
        have HPS : Hid (U ^ (j + 1) = U ^ j * U) := Lib.hid (Nat.pow_succ ..)
        generalize lvl us j = L at *
        generalize U ^ j = Mn at *
        go_wp2
        go_loopw [16, 66] (fun vO i wr => ∃ k : Nat, k ≤ Mn ∧ i = .int .i64 k ∧ RowT 23 w2.heap.size wr vO (gsV l us t j ++ (L.take k).filter (comes l t)) ∧ LevT wr vO a b AL Mn cL L ∧ Ext w2 wr) (fun _ i _ => Mn - (intOf i).toNat)
        case atStart => exact ⟨0, by omega, rfl, by simpa using OR, LT, hz⟩
        case round =>
          obtain ⟨k', hk', rfl, OR', LT', hz'⟩ := hrel
          clear OR LT hz
          generalize wr = w4 at *
          by_cases hlt2 : k' < Mn
          · obtain ⟨x, hxx⟩ : ∃ x, L[k']? = some x := ⟨L[k']'(by rw [HLL.out]; exact hlt2), List.getElem?_eq_getElem _⟩
            have hxl := HLM.out x (List.mem_of_getElem? hxx)
            obtain ⟨blk, off, A', n', c', rfl, hcell, sx⟩ := level_at LT'.2.1 hxx
            have hnj : n' = j := by rw [← sx.len]; exact hxl
            subst hnj
            have HXL := Lib.hid hxl
            have HX : Hid (Runes w4 A' n' c' x) := Lib.hid (sx.mono (fun _ _ h => h) (fun _ _ => trivial))
            have hcx := sx.cap; have hmx := sx.max; unfold maxLen at hmx
            have HRx := Lib.hid (HRun.out w4 (hx.trans hz') A' n' c' x HX.out)
            have hfl := List.length_filter_le (comes l t) (L.take k')
            rw [List.length_take, HLL.out] at hfl
            have hbo : (gsV l us t n' ++ (L.take k').filter (comes l t)).length + 1 ≤ 60000 := by rw [List.length_append]; omega
            have HTK : Hid ((L.take (k' + 1)).filter (comes l t) = (L.take k').filter (comes l t) ++ [x].filter (comes l t)) := Lib.hid (by rw [take_snoc hxx, List.filter_append])
            have HC : Hid (comes l t x = (decide ((runF l x).1 = 0) && decide ((runAll l x).text = t))) := Lib.hid rfl
            clear hxx hxl sx hfl
            generalize (runAll l x).steps = st at *
            generalize (runAll l x).put = pt at *
            generalize (runAll l x).text = tx at *
            generalize (runF l x).2 = z1 at *
            generalize (runF l x).1 = y1 at *
            by_cases hy1 : y1 = 0
            · subst hy1
              by_cases htx : tx = t
              · have HQ : Hid (gsV l us t n' ++ (L.take (k' + 1)).filter (comes l t) = gsV l us t n' ++ (L.take k').filter (comes l t) ++ [x]) := Lib.hid (by
                  rw [HTK.out, ← List.append_assoc]; congr 1; simp [HC.out, htx])
                have HD : Hid (decide (tx = t) = true) := Lib.hid (decide_eq_true htx)
                clear htx HTK HC
                generalize gsV l us t n' ++ (L.take k').filter (comes l t) = go at *
                go_wp2_with (first
                  | (go_at_call 36
                     refine HRx.out.mono ?_
                     rintro e w5 ⟨⟨A1, n1, c1, rfl, hA⟩, x5⟩
                     have d5 := ((Ext.refl w5).alloc (.cells #[.slice A1 n1 c1, .int .i64 st, .int .i64 pt] 45)).alloc (.cells #[.int .i64 0, .int .i64 z1] 38)
                     have e5 := x5.trans d5)
                  | (go_at_call 104
                     refine (Equal_any _ _ _ _ _ _ _ _ _ (Runes.ext hA d5) (HT.out.ext ((hx.trans hz').trans e5))).mono ?_
                     rintro e w6 ⟨rfl, x6⟩
                     rw [HD.out]
                     have e6 := e5.trans x6)
                  | (go_at_call 91
                     refine (Clone_rune one_rune (keep_rune bot) A' n' c' x _ (HX.out.ext e6) (by omega) (fun g _ h => h)).mono ?_
                     rintro e w7 ⟨v7, rfl, o7, x7⟩
                     obtain ⟨A7, c7, rfl, s7⟩ := o7.sl
                     rw [HXL.out] at s7 ⊢
                     have t7 := SlR.lt (by omega) s7
                     have f7 := (e6.trans x7).alloc (.cells #[.slice A7 n' c7] 23)
                     have hs6 := e6.size
                     have hs2 := hz'.size
                     obtain ⟨ok, o8, k1, k2, k3⟩ := (OR'.ext f7).more (tk := fun i => w6.heap.size ≤ i ∧ i < w7.heap.size) (fun i hi => ⟨by omega, by simp; omega, fun g hg => by have := OR'.lt g hg; omega⟩)
                     have ts := textG_one 23 t7
                     have hbs := (hz'.trans f7).size)
                  | (at_builtin
                     refine wpList_appS T_textG (by omega) rfl (.tmp 85) (.tmp 88) rfl rfl o8 rfl ts (fun vs x ⟨A, n, c, e, hs⟩ => ⟨A, n, c, e, hs.mono (fun _ _ h => h) k1⟩) (one_sl _ _ _) (keep_sl (keep_rune _)) k3 hbo hbs ?_
                     intro v9 w9 o9 g9 hat9
                     have R9 := RowT.shut o9 k2 k3 g9 hat9
                     have L9 := (LT'.ext f7).app g9 hat9
                     have e9 := (hz'.trans f7).app g9 o8))
                go_roundw
                case rel => exact ⟨k' + 1, by omega, by go_num, by rw [HQ.out]; exact R9, L9, e9⟩
                case measure => simp [intOf]; omega
              · have HQ : Hid (gsV l us t n' ++ (L.take (k' + 1)).filter (comes l t) = gsV l us t n' ++ (L.take k').filter (comes l t)) := Lib.hid (by
                  rw [HTK.out]; simp [HC.out, htx])
                have HD : Hid (decide (tx = t) = false) := Lib.hid (decide_eq_false htx)
                clear htx HTK HC
                go_wp2_with (first
                  | (go_at_call 36
                     refine HRx.out.mono ?_
                     rintro e w5 ⟨⟨A1, n1, c1, rfl, hA⟩, x5⟩
                     have d5 := ((Ext.refl w5).alloc (.cells #[.slice A1 n1 c1, .int .i64 st, .int .i64 pt] 45)).alloc (.cells #[.int .i64 0, .int .i64 z1] 38)
                     have e5 := x5.trans d5)
                  | (go_at_call 104
                     refine (Equal_any _ _ _ _ _ _ _ _ _ (Runes.ext hA d5) (HT.out.ext ((hx.trans hz').trans e5))).mono ?_
                     rintro e w6 ⟨rfl, x6⟩
                     rw [HD.out]
                     have e6 := e5.trans x6))
                go_roundw
                case rel => exact ⟨k' + 1, by omega, by go_num, by rw [HQ.out]; exact OR'.ext e6, LT'.ext e6, hz'.trans e6⟩
                case measure => simp [intOf]; omega
            · have HQ : Hid (gsV l us t n' ++ (L.take (k' + 1)).filter (comes l t) = gsV l us t n' ++ (L.take k').filter (comes l t)) := Lib.hid (by
                rw [HTK.out]; simp [HC.out, hy1])
              have hn1 : (y1 == 0) = false := by simpa using hy1
              clear hy1 HTK HC
              go_wp2_with (first
                | (go_at_call 36
                   refine HRx.out.mono ?_
                   rintro e w5 ⟨⟨A1, n1, c1, rfl, hA⟩, x5⟩
                   have d5 := ((Ext.refl w5).alloc (.cells #[.slice A1 n1 c1, .int .i64 st, .int .i64 pt] 45)).alloc (.cells #[.int .i64 y1, .int .i64 z1] 38)
                   have e5 := x5.trans d5))
              go_roundw
              case rel => exact ⟨k' + 1, by omega, by go_num, by rw [HQ.out]; exact OR'.ext e5, LT'.ext e5, hz'.trans e5⟩
              case measure => simp [intOf]; omega
          · rw [take_all HLL.out (by omega), ← HGS.out] at OR'
            clear HGS HRun
            by_cases hjK : j = K
            · have HBB := Lib.hid (show guessE l ds t K = 0 ∧ guessV l ds t K = gsV l us t (j + 1) by rw [hjK]; exact HB.out)
              have hje : ((j : Int) == (K : Int)) = true := by simp [hjK]
              clear hjK HB
              obtain ⟨AO, cO, rfl, sO⟩ := OR'.texts
              generalize gsV l us t (j + 1) = go at *
              obtain ⟨G, hG⟩ : ∃ G, go.length = G := ⟨_, rfl⟩
              rw [hG] at sO ⊢
              go_wp2
              refine bodyPost_ret (v := .tuple #[.slice AO G cO, .int .i64 0]) (by simp [results, Try.results46, go_sem]) rfl ?_
              exact ⟨⟨AO, G, cO, by rw [HBB.out.1], by rw [HBB.out.2]; exact sO⟩, hx.trans hz'⟩
            · have hje : ((j : Int) == (K : Int)) = false := by simp; omega
              clear HB
              go_wp2
              go_loopw [23, 97] (fun vN i wr => ∃ k : Nat, k ≤ Mn ∧ i = .int .i64 k ∧ RowT 23 w4.heap.size wr vN (nxt us (L.take k)) ∧ Ext w4 wr) (fun _ i _ => Mn - (intOf i).toNat)
              case atStart => exact ⟨0, by omega, rfl, RowT.nil _ _ _, Ext.refl _⟩
              case round =>
                obtain ⟨k2, hk2, rfl, NR, hv⟩ := hrel
                generalize wr = w5 at *
                by_cases hlt3 : k2 < Mn
                · obtain ⟨x, hxx⟩ : ∃ x, L[k2]? = some x := ⟨L[k2]'(by rw [HLL.out]; exact hlt3), List.getElem?_eq_getElem _⟩
                  have hxl := HLM.out x (List.mem_of_getElem? hxx)
                  obtain ⟨blk, off, A', n', c', rfl, hcell4, sx⟩ := level_at LT'.2.1 hxx
                  have hcell := hv.cell hcell4
                  have hnj : n' = j := by rw [← sx.len]; exact hxl
                  subst hnj
                  have HXL := Lib.hid hxl
                  have HX : Hid (Runes w4 A' n' c' x) := Lib.hid (sx.mono (fun _ _ h => h) (fun _ _ => trivial))
                  have hcx := sx.cap; have hmx := sx.max; unfold maxLen at hmx
                  have HTK : Hid (nxt us (L.take (k2 + 1)) = nxt us (L.take k2) ++ us.map fun u => x ++ [u]) := Lib.hid (by rw [take_snoc hxx, nxt_snoc])
                  have hnl : (nxt us (L.take k2)).length ≤ 3125 * 5 := by
                    rw [nxt_len, List.length_take, HLL.out, HUL.out]
                    exact Nat.mul_le_mul (by omega) hlU
                  clear hxx hxl sx
                  generalize nxt us (L.take k2) = prev at *
                  go_wp2
                  go_loopw [23, 103] (fun vN i wr => ∃ r : Nat, r ≤ U ∧ i = .int .i64 r ∧ RowT 23 w4.heap.size wr vN (prev ++ (us.take r).map fun u => x ++ [u]) ∧ Ext w4 wr) (fun _ i _ => U - (intOf i).toNat)
                  case atStart => exact ⟨0, by omega, rfl, by simpa using NR, hv⟩
                  case round =>
                    obtain ⟨r, hr, rfl, NR', hv'⟩ := hrel
                    generalize wr = w6 at *
                    by_cases hlt4 : r < U
                    · obtain ⟨u, hu⟩ := HU.out.idx hlt4
                      obtain ⟨bu, offu, rfl, _, hcu, hi1, hi2⟩ := (HU.out.ext (hz'.trans hv')).rune hu
                      have HQ : Hid (prev ++ ((us.take (r + 1)).map fun u => x ++ [u]) = prev ++ ((us.take r).map fun u => x ++ [u]) ++ [x ++ [u]]) := Lib.hid (by
                        rw [take_snoc hu, List.map_append, List.append_assoc]; rfl)
                      have hbo : (prev ++ (us.take r).map fun u => x ++ [u]).length + 1 ≤ 60000 := by
                        rw [List.length_append, List.length_map, List.length_take]; omega
                      have hx1 : x.length + 1 ≤ 60000 := by rw [HXL.out]; omega
                      have HX1 : Hid ((x ++ [u]).length = n' + 1) := Lib.hid (by rw [List.length_append, HXL.out]; rfl)
                      have HXX := Lib.hid (HX.out.ext hv')
                      clear hu
                      generalize (prev ++ (us.take r).map fun u => x ++ [u]) = go at *
                      go_wp2_with (first
                        | (go_at_call 91
                           refine (Clone_rune one_rune (keep_rune bot) A' n' c' x _ HXX.out (by omega) (fun g _ h => h)).mono ?_
                           rintro e w7 ⟨v7, rfl, o7, x7⟩
                           have e7 := x7.alloc (.cells #[.int .i32 u] 21)
                           have o8 := o7.ext (keep_rune bot) ((Ext.refl w7).alloc (.cells #[.int .i32 u] 21))
                           have s8 := oneP_new w7 u 21 ⟨hi1, hi2⟩)
                        | (at_builtin
                           refine wpList_appS T_rune (by omega) rfl (.tmp 109) (.tmp 111) rfl rfl o8 rfl s8 (fun _ _ h => h) one_rune (keep_rune bot) (bot_no _) hx1 e7.size ?_
                           intro v9 w9 o9 g9 hat9
                           have f9 := e7.app g9 o8
                           obtain ⟨A9, c9, rfl, s9⟩ := o9.sl
                           rw [HX1.out] at s9 ⊢
                           have t9 := SlR.lt (by omega) s9
                           have f10 := f9.alloc (.cells #[.slice A9 (n' + 1) c9] 23)
                           have hs4 := hv'.size
                           obtain ⟨ok, o10, k1, k2', k3⟩ := (NR'.ext f10).more (tk := fun i => w6.heap.size ≤ i ∧ i < w9.heap.size) (fun i hi => ⟨by omega, by simp; omega, fun g hg => by have := NR'.lt g hg; omega⟩)
                           have ts := textG_one 23 t9
                           have hbs := (hv'.trans f10).size)
                        | (at_builtin
                           refine wpList_appS T_textG (by omega) rfl (.tmp 107) (.tmp 113) rfl rfl o10 rfl ts (fun vs x ⟨A, n, c, e, hs⟩ => ⟨A, n, c, e, hs.mono (fun _ _ h => h) k1⟩) (one_sl _ _ _) (keep_sl (keep_rune _)) k3 hbo hbs ?_
                           intro v11 w11 o11 g11 hat11
                           have R11 := RowT.shut o11 k2' k3 g11 hat11
                           have e11 := (hv'.trans f10).app g11 o10))
                      go_roundw
                      case rel => exact ⟨r + 1, by omega, by go_num, by rw [HQ.out]; exact R11, e11⟩
                      case measure => simp [intOf]; omega
                    · rw [take_all HUL.out (by omega), ← HTK.out] at NR'
                      go_wp2
                      go_roundw
                      case rel => exact ⟨k2 + 1, by omega, by go_num, NR', hv'⟩
                      case measure => simp [intOf]; omega
                · rw [take_all HLL.out (by omega), ← HLS.out] at NR
                  obtain ⟨AN, cN, rfl, sN⟩ := NR.rng
                  have hNL : (lvl us (j + 1)).length = U ^ (j + 1) := by rw [lvl_length, HUL.out]
                  rw [hNL] at sN ⊢
                  have OR2 := OR'.ext hv
                  clear hNL
                  go_wp2
                  go_roundw
                  case rel => exact ⟨j + 1, w4.heap.size, w5.heap.size, AN, cN, by omega, by go_num, rfl, OR2, ⟨Nat.le_refl _, sN, fun g hg => .inl (OR'.lt g hg).2⟩, hz'.trans hv⟩
                  case measure => simp [intOf]; omega

include h hd ht in
theorem guess_any (M : Int) : Calls Try.prog 46 #[.slice A n c, .slice B m d, .slice X p q, .int .i64 M] w fun e w' => GuessR l ds t M w' e ∧ Ext w w' := by
  by_cases he : guE l ds t = 0
  · by_cases hM : M < 0 ∨ 5 < M
    · exact guess_far_any A n c l B m d ds X p q t w h hd ht M he hM
    · obtain ⟨K, rfl⟩ := Int.eq_ofNat_of_zero_le (by omega : 0 ≤ M)
      exact guess_main A n c l B m d ds X p q t w h hd ht K he (by omega)
  · exact guess_no A n c l B m d ds X p q t w h hd ht M he
end

end Go.Proofs.Ytfdkbhbnldcbmaa
