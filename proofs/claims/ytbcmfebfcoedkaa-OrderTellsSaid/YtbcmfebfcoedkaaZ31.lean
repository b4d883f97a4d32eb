/- Walk: order.Key: a text's three rows. -/
import Derived.Test.YtbcmfebfcoedkaaZ30
import Derived.Test.YtbcmfebfcoedkaaZ22
namespace Go.Proofs.Ytbcmfebfcoedkaa
open Go.RowKit
set_option linter.unusedVariables false
set_option linter.unusedSimpArgs false

/-! ### plain -/
def letO (V : List Int) : List Int := (V.filter fun r => !isMark r).map lowerI
def marO (V : List Int) : List Int := V.map fun r => if isMark r then r else 0
def greO (V : List Int) : List Int := (V.filter fun r => !isMark r).map fun r => if lowerI r = r then 0 else 1
section
variable {V : List Int} {k : Nat} {r : Int}
theorem letO_mark (h : V[k]? = some r) (m : isMark r = true) : letO (V.take (k + 1)) = letO (V.take k) := by rw [take_snoc h]; simp [letO, List.filter_append, m]
theorem letO_let (h : V[k]? = some r) (m : isMark r = false) : letO (V.take (k + 1)) = letO (V.take k) ++ [lowerI r] := by rw [take_snoc h]; simp [letO, List.filter_append, m]
theorem marO_mark (h : V[k]? = some r) (m : isMark r = true) : marO (V.take (k + 1)) = marO (V.take k) ++ [r] := by rw [take_snoc h]; simp [marO, m]
theorem marO_let (h : V[k]? = some r) (m : isMark r = false) : marO (V.take (k + 1)) = marO (V.take k) ++ [0] := by rw [take_snoc h]; simp [marO, m]
theorem greO_mark (h : V[k]? = some r) (m : isMark r = true) : greO (V.take (k + 1)) = greO (V.take k) := by rw [take_snoc h]; simp [greO, List.filter_append, m]
theorem greO_let (h : V[k]? = some r) (m : isMark r = false) : greO (V.take (k + 1)) = greO (V.take k) ++ [if lowerI r = r then 0 else 1] := by rw [take_snoc h]; simp [greO, List.filter_append, m]
theorem letO_len (V : List Int) : (letO V).length ≤ V.length := by unfold letO; rw [List.length_map]; exact List.length_filter_le _ _
theorem marO_len (V : List Int) : (marO V).length = V.length := by simp [marO]
theorem greO_len (V : List Int) : (greO V).length ≤ V.length := by unfold greO; rw [List.length_map]; exact List.length_filter_le _ _
end

/-! ### three rows of a call's own -/
theorem T_int : ElemT Try.prog 34 3 1 8 := elemT Try.underlying34 (z := .int .i64 0) (by kernel_rfl) rfl (by omega)
theorem one_newI (w : World) (x : Int) (t : TypeId) (hx : i64 x) : Ints (w.alloc (.cells #[.int .i64 x] t)) (some ⟨w.heap.size, 0, none⟩) 1 1 [x] := by
  refine SlR.fresh rfl (by unfold maxLen; omega) fun k u huu => ?_
  match k, huu with
  | 0, huu =>
    have := Option.some.inj huu
    subst this
    refine ⟨[.int .i64 x], rfl, ⟨rfl, hx⟩, fun j u hu => ?_⟩
    match j, hu with
    | 0, hu => exact hu
/-- two rows lie in different blocks -/
def Apart2 (a b : Value) : Prop := ∀ g, a.ownBlock = some g → b.ownBlock ≠ some g
theorem Apart2.symm {a b : Value} (h : Apart2 a b) : Apart2 b a := fun g hb ha => h g ha hb
theorem Apart2.nil (b : Value) : Apart2 (.slice none 0 0) b := fun g h => by cases h
structure Own3 (base : Nat) (w : World) (a b c : Value) (la lb lc : List Int) : Prop where
  oa : OwnR rInt 3 1 base w a la
  ob : OwnR rInt 3 1 base w b lb
  oc : OwnR rInt 3 1 base w c lc
  ab : Apart2 a b
  ac : Apart2 a c
  bc : Apart2 b c
theorem Own3.nil (base : Nat) (w : World) : Own3 base w (.slice none 0 0) (.slice none 0 0) (.slice none 0 0) [] [] [] :=
  ⟨OwnR.nil _ _ _ _ _, OwnR.nil _ _ _ _ _, OwnR.nil _ _ _ _ _, Apart2.nil _, Apart2.nil _, Apart2.nil _⟩
theorem Own3.ext {base : Nat} {w w' : World} {a b c : Value} {la lb lc : List Int} (h : Own3 base w a b c la lb lc) (e : Ext w w') : Own3 base w' a b c la lb lc :=
  ⟨h.oa.ext (keep_int top) e, h.ob.ext (keep_int top) e, h.oc.ext (keep_int top) e, h.ab, h.ac, h.bc⟩
theorem own_far {base : Nat} {w w' : World} {v : Value} {l : List Int} {r : Option Nat} (h : OwnR rInt 3 1 base w v l) (hg : w.grownBy w' r) (hd : ∀ g, v.ownBlock = some g → r ≠ some g) : OwnR rInt 3 1 base w' v l :=
  h.keep (ok := bot) (keep_int bot) (fun _ hb _ => hb.elim) (fun g hv => hg.block g (h.lt g hv).2 (fun e => hd g hv e.symm))
theorem apart_grown {base : Nat} {w : World} {a a' b : Value} {lb : List Int} (h : Apart2 a b) (ob : OwnR rInt 3 1 base w b lb) (hat : a'.ownBlock = a.ownBlock ∨ a'.ownBlock = some w.heap.size) : Apart2 a' b := fun g hg hb => by
  rcases hat with e | e
  · exact h g (e ▸ hg) hb
  · have := Option.some.inj (e.symm.trans hg); have := (ob.lt g hb).2; omega
theorem Own3.growA {base : Nat} {w w' : World} {a b c a' : Value} {la lb lc la' : List Int} (h : Own3 base w a b c la lb lc) (o : OwnR rInt 3 1 base w' a' la') (hg : w.grownBy w' a.ownBlock) (hat : a'.ownBlock = a.ownBlock ∨ a'.ownBlock = some w.heap.size) :
    Own3 base w' a' b c la' lb lc :=
  ⟨o, own_far h.ob hg (fun g hb e => h.ab g e hb), own_far h.oc hg (fun g hb e => h.ac g e hb), apart_grown h.ab h.ob hat, apart_grown h.ac h.oc hat, h.bc⟩
theorem Own3.growB {base : Nat} {w w' : World} {a b c b' : Value} {la lb lc lb' : List Int} (h : Own3 base w a b c la lb lc) (o : OwnR rInt 3 1 base w' b' lb') (hg : w.grownBy w' b.ownBlock) (hat : b'.ownBlock = b.ownBlock ∨ b'.ownBlock = some w.heap.size) :
    Own3 base w' a b' c la lb' lc :=
  ⟨own_far h.oa hg (fun g hb e => h.ab g hb e), o, own_far h.oc hg (fun g hb e => h.bc g e hb), (apart_grown h.ab.symm h.oa hat).symm, h.ac, apart_grown h.bc h.oc hat⟩
theorem Own3.growC {base : Nat} {w w' : World} {a b c c' : Value} {la lb lc lc' : List Int} (h : Own3 base w a b c la lb lc) (o : OwnR rInt 3 1 base w' c' lc') (hg : w.grownBy w' c.ownBlock) (hat : c'.ownBlock = c.ownBlock ∨ c'.ownBlock = some w.heap.size) :
    Own3 base w' a b c' la lb lc' :=
  ⟨own_far h.oa hg (fun g hb e => h.ac g hb e), own_far h.ob hg (fun g hb e => h.bc g hb e), o, h.ab, (apart_grown h.ac.symm h.oa hat).symm, (apart_grown h.bc.symm h.ob hat).symm⟩

theorem Ints.ext {w w' : World} {A : Option Addr} {n c : Nat} {l : List Int} (h : Ints w A n c l) (e : Ext w w') : Ints w' A n c l := SlR.ext (keep_int _) h e
/-- what a call of Key leaves -/
structure KeyR (w : World) (er : Int) (V : List Int) (e : Ending) (w' : World) : Prop where
  ret : ∃ A1 c1 A2 c2 A3 c3, e = .returned (.tuple #[.slice A1 (letO V).length c1, .slice A2 (marO V).length c2, .slice A3 (greO V).length c3, .int .i64 er]) ∧ Ints w' A1 (letO V).length c1 (letO V) ∧ Ints w' A2 (marO V).length c2 (marO V) ∧ Ints w' A3 (greO V).length c3 (greO V)
  ext : Ext w w'
theorem i64_of_i32 {x : Int} (h : i32 x) : i64 x := ⟨by have := h.1; omega, by have := h.2; omega⟩

set_option maxRecDepth 1000000 in
set_option maxHeartbeats 6400000 in
theorem Key_any (A : Option Addr) (n c : Nat) (l : List Int) (w : World) (h : Runes w A n c l) :
    Calls Try.prog 16 #[.slice A n c] w fun e w' => KeyR w (apartE l) (apartV l) e w' := by
  have C1 := Lib.hid (Apart_any A n c l w h)
  have HLN := Lib.hid (apart_len l)
  clear h
  by_cases he : apartE l = 0
  · have HE := Lib.hid he
    rw [he] at C1
    have CL := Lib.hid (fun r W => Class_any r W)
    have CO := Lib.hid (fun r W h => Lower_any r W h)
    clear he
    generalize apartV l = V at *
    go_enter Try.func16, Try.ntmps16
    go_wp2_with (go_at_call 9; ((with_reducible refine C1.out.mono ?_); rintro e w1 ⟨⟨v, rfl, o1⟩, x1⟩; obtain ⟨AV, cV, rfl, s1⟩ := o1.top; have S1 := Lib.hid s1; have X1 := Lib.hid x1; clear o1 x1 s1))
    have hcap := S1.out.cap
    have hm := S1.out.max; unfold maxLen at hm
    obtain ⟨N, hN⟩ : ∃ N, V.length = N := ⟨_, rfl⟩
    rw [hN] at S1 hcap ⊢
    have HN := Lib.hid hN
    clear hN C1
    go_loopw [2, 3, 4, 21] (fun va vb vc vi wr => ∃ (k : Nat) (a b c : Value), a = va ∧ b = vb ∧ c = vc ∧ vi = .int .i64 k ∧ k ≤ N ∧ Hid (Own3 w1.heap.size wr a b c (letO (V.take k)) (marO (V.take k)) (greO (V.take k))) ∧ Hid (Ext w1 wr)) (fun _ _ _ vi _ => N - (intOf vi).toNat)
    case atStart => exact ⟨0, _, _, _, rfl, rfl, rfl, rfl, by omega, Lib.hid (Own3.nil _ _), Lib.hid (Ext.refl _)⟩
    case round =>
      obtain ⟨k, va, vb, vc, rfl, rfl, rfl, rfl, hk, HO, HX⟩ := hrel
      by_cases hlt : k < N
      · have gz : (k : Int) < (N : Int) := by omega
        have hR := Runes.ext S1.out HX.out
        obtain ⟨x, hxx⟩ := hR.idx hlt
        obtain ⟨b, off, rfl, hbb, hc, hi1, hi2⟩ := hR.rune hxx
        have HI := Lib.hid (show i32 x from ⟨hi1, hi2⟩)
        have CX := Lib.hid (fun W => CL.out x W)
        have CLO := Lib.hid (fun W => CO.out x W ⟨hi1, hi2⟩)
        have h2 : (V.take k).length ≤ 4000 := (by rw [List.length_take]; have := HLN.out; omega)
        have HF1 := Lib.hid (Nat.le_trans (letO_len (V.take k)) h2)
        have HF2 := Lib.hid (show (marO (V.take k)).length ≤ 4000 by rw [marO_len]; exact h2)
        have HF3 := Lib.hid (Nat.le_trans (greO_len (V.take k)) h2)
        have HV := Lib.hid hxx
        have HQ := Lib.hid (show isMark x = decide (0 < clsOf x) from rfl)
        clear hR hxx h2
        obtain ⟨cx, hcx⟩ : ∃ q, clsOf x = q := ⟨_, rfl⟩
        rw [hcx] at CX HQ
        clear hcx
        have wx : IntKind.i64.wrap x = x := IntWalk.i64_in _ (by omega)
        by_cases h0 : 0 < cx
        · have gd : decide (0 < cx) = true := decide_eq_true h0
          have hm : isMark x = true := by rw [HQ.out]; exact gd
          have E1 := Lib.hid (letO_mark HV.out hm); have E2 := Lib.hid (marO_mark HV.out hm); have E3 := Lib.hid (greO_mark HV.out hm)
          have e5 := (Ext.refl wr).alloc (.cells #[.int .i64 x] 3)
          have O5 := Lib.hid (HO.out.ext e5)
          have X5 := Lib.hid (HX.out.trans e5)
          have S5 := Lib.hid (one_newI wr x 3 (i64_of_i32 HI.out))
          clear e5 hm
          go_wp2_with (first
            | (go_at_call 7; ((with_reducible refine (CX.out _).mono ?_); rintro e w' ⟨rfl, rfl⟩))
            | (refine wpList_appS T_int (by omega) rfl (.tmp 28) (.tmp 31) rfl rfl O5.out.ob rfl S5.out (fun _ _ h => h) one_int (keep_int bot) (bot_no _) (by have := HF2.out; omega) X5.out.size ?_; intro v6 w6 o6 g6 hat6; have X6 := Lib.hid (X5.out.app g6 O5.out.ob); have O6 := Lib.hid (O5.out.growB o6 g6 hat6); clear o6 g6 hat6))
          go_roundw
          case rel => exact ⟨k + 1, va, v6, vc, rfl, rfl, rfl, by go_num, by omega, by rw [E1.out, E2.out, E3.out]; exact O6, X6⟩
          case measure => simp [intOf]; omega
        · have gd : decide (0 < cx) = false := decide_eq_false h0
          have hm : isMark x = false := by rw [HQ.out]; exact gd
          have E1 := Lib.hid (letO_let HV.out hm); have E2 := Lib.hid (marO_let HV.out hm); have E3 := Lib.hid (greO_let HV.out hm)
          have HLO := lower_i32 HI.out
          obtain ⟨lo, hlo⟩ : ∃ q, lowerI x = q := ⟨_, rfl⟩
          rw [hlo] at HLO CLO E1 E3
          have HLI := Lib.hid (i64_of_i32 HLO)
          have wl : IntKind.i64.wrap lo = lo := IntWalk.i64_in _ (by have := HLO.1; have := HLO.2; omega)
          clear hlo hm HLO
          obtain ⟨g, hg⟩ : ∃ g : Int, g = if lo = x then 0 else 1 := ⟨_, rfl⟩
          rw [← hg] at E3
          have HGI := Lib.hid (show i64 g by rw [hg]; split <;> exact ⟨by omega, by omega⟩)
          have arms : True := trivial
          by_cases hgl : lo = x
          · have hgq : (lo != x) = false := by simp [hgl]
            rw [if_pos hgl] at hg
            subst hg
            clear hgl
            go_wp2_with (first
              | (go_at_call 7; ((with_reducible refine (CX.out _).mono ?_); rintro e w' ⟨rfl, rfl⟩))
              | (go_at_call 34
                 (with_reducible refine (CLO.out _).mono ?_)
                 rintro e w4 ⟨rfl, x4⟩
                 have e5 := x4.alloc (.cells #[.int .i64 lo] 3)
                 have O5 := Lib.hid (HO.out.ext e5)
                 have X5 := Lib.hid (HX.out.trans e5)
                 have S5 := Lib.hid (one_newI w4 lo 3 HLI.out)
                 clear e5 x4)
              | (refine wpList_appS T_int (by omega) rfl (.tmp 38) (.tmp 41) rfl rfl O5.out.oa rfl S5.out (fun _ _ h => h) one_int (keep_int bot) (bot_no _) (by have := HF1.out; omega) X5.out.size ?_
                 intro v6 w6 o6 g6 hat6
                 have e7 := (Ext.refl w6).alloc (.cells #[.int .i64 0] 3)
                 have O7 := Lib.hid ((O5.out.growA o6 g6 hat6).ext e7)
                 have X7 := Lib.hid ((X5.out.app g6 O5.out.oa).trans e7)
                 have S7 := Lib.hid (one_newI w6 0 3 ⟨by omega, by omega⟩)
                 clear o6 g6 hat6 e7)
              | (refine wpList_appS T_int (by omega) rfl (.tmp 43) (.tmp 44) rfl rfl O7.out.ob rfl S7.out (fun _ _ h => h) one_int (keep_int bot) (bot_no _) (by have := HF2.out; omega) X7.out.size ?_
                 intro v8 w8 o8 g8 hat8
                 have e9 := (Ext.refl w8).alloc (.cells #[.int .i64 0] 3)
                 have O9 := Lib.hid ((O7.out.growB o8 g8 hat8).ext e9)
                 have X9 := Lib.hid ((X7.out.app g8 O7.out.ob).trans e9)
                 have S9 := Lib.hid (one_newI w8 0 3 HGI.out)
                 clear o8 g8 hat8 e9)
              | (refine wpList_appS T_int (by omega) rfl (.tmp 46) (.tmp 48) rfl rfl O9.out.oc rfl S9.out (fun _ _ h => h) one_int (keep_int bot) (bot_no _) (by have := HF3.out; omega) X9.out.size ?_
                 intro v10 w10 o10 g10 hat10
                 have O11 := Lib.hid (O9.out.growC o10 g10 hat10)
                 have X11 := Lib.hid (X9.out.app g10 O9.out.oc)
                 clear o10 g10 hat10))
            go_roundw
            case rel => exact ⟨k + 1, v6, v8, v10, rfl, rfl, rfl, by go_num, by omega, by rw [E1.out, E2.out, E3.out]; exact O11, X11⟩
            case measure => simp [intOf]; omega
          · have hgq : (lo != x) = true := by simp [hgl]
            rw [if_neg hgl] at hg
            subst hg
            clear hgl
            go_wp2_with (first
              | (go_at_call 7; ((with_reducible refine (CX.out _).mono ?_); rintro e w' ⟨rfl, rfl⟩))
              | (go_at_call 34
                 (with_reducible refine (CLO.out _).mono ?_)
                 rintro e w4 ⟨rfl, x4⟩
                 have e5 := x4.alloc (.cells #[.int .i64 lo] 3)
                 have O5 := Lib.hid (HO.out.ext e5)
                 have X5 := Lib.hid (HX.out.trans e5)
                 have S5 := Lib.hid (one_newI w4 lo 3 HLI.out)
                 clear e5 x4)
              | (refine wpList_appS T_int (by omega) rfl (.tmp 38) (.tmp 41) rfl rfl O5.out.oa rfl S5.out (fun _ _ h => h) one_int (keep_int bot) (bot_no _) (by have := HF1.out; omega) X5.out.size ?_
                 intro v6 w6 o6 g6 hat6
                 have e7 := (Ext.refl w6).alloc (.cells #[.int .i64 0] 3)
                 have O7 := Lib.hid ((O5.out.growA o6 g6 hat6).ext e7)
                 have X7 := Lib.hid ((X5.out.app g6 O5.out.oa).trans e7)
                 have S7 := Lib.hid (one_newI w6 0 3 ⟨by omega, by omega⟩)
                 clear o6 g6 hat6 e7)
              | (refine wpList_appS T_int (by omega) rfl (.tmp 43) (.tmp 44) rfl rfl O7.out.ob rfl S7.out (fun _ _ h => h) one_int (keep_int bot) (bot_no _) (by have := HF2.out; omega) X7.out.size ?_
                 intro v8 w8 o8 g8 hat8
                 have e9 := (Ext.refl w8).alloc (.cells #[.int .i64 1] 3)
                 have O9 := Lib.hid ((O7.out.growB o8 g8 hat8).ext e9)
                 have X9 := Lib.hid ((X7.out.app g8 O7.out.ob).trans e9)
                 have S9 := Lib.hid (one_newI w8 1 3 HGI.out)
                 clear o8 g8 hat8 e9)
              | (refine wpList_appS T_int (by omega) rfl (.tmp 46) (.tmp 48) rfl rfl O9.out.oc rfl S9.out (fun _ _ h => h) one_int (keep_int bot) (bot_no _) (by have := HF3.out; omega) X9.out.size ?_
                 intro v10 w10 o10 g10 hat10
                 have O11 := Lib.hid (O9.out.growC o10 g10 hat10)
                 have X11 := Lib.hid (X9.out.app g10 O9.out.oc)
                 clear o10 g10 hat10))
            go_roundw
            case rel => exact ⟨k + 1, v6, v8, v10, rfl, rfl, rfl, by go_num, by omega, by rw [E1.out, E2.out, E3.out]; exact O11, X11⟩
            case measure => simp [intOf]; omega
      · have gz : ¬ (k : Int) < (N : Int) := by omega
        have hO := HO.out
        rw [List.take_of_length_le (by rw [HN.out]; omega)] at hO
        obtain ⟨A1, c1, rfl, q1⟩ := hO.oa.top
        obtain ⟨A2, c2, rfl, q2⟩ := hO.ob.top
        obtain ⟨A3, c3, rfl, q3⟩ := hO.oc.top
        have Q1 := Lib.hid q1; have Q2 := Lib.hid q2; have Q3 := Lib.hid q3
        clear hO HO q1 q2 q3
        go_wp2
        refine bodyPost_ret (v := .tuple #[.slice A1 (letO V).length c1, .slice A2 (marO V).length c2, .slice A3 (greO V).length c3, .int .i64 0]) (by simp [results, Try.results16, go_sem]) rfl ?_
        rw [HE.out]
        exact ⟨⟨_, _, _, _, _, _, rfl, Q1.out, Q2.out, Q3.out⟩, X1.out.trans HX.out⟩
  · have HA := Lib.hid (apart_nil he)
    rw [HA.out]
    have hn : (apartE l != 0) = true := by simpa using he
    clear he HLN
    generalize apartE l = er at *
    go_enter Try.func16, Try.ntmps16
    go_wp2_with (go_at_call 9; ((with_reducible refine C1.out.mono ?_); rintro e w1 ⟨⟨v, rfl, o1⟩, x1⟩))
    refine bodyPost_ret (v := .tuple #[.slice none 0 0, .slice none 0 0, .slice none 0 0, .int .i64 er]) (by simp [results, Try.results16, go_sem]) rfl ?_
    exact ⟨⟨none, 0, none, 0, none, 0, rfl, SlR.nil _ _ _ _ _ _ (by unfold maxLen; omega), SlR.nil _ _ _ _ _ _ (by unfold maxLen; omega), SlR.nil _ _ _ _ _ _ (by unfold maxLen; omega)⟩, x1⟩

end Go.Proofs.Ytbcmfebfcoedkaa
