/- Walks: a player takes a piece; it plays to the end. -/
import Derived.Test.YtfdkbhbnldcbmaaW61
namespace Go.Proofs.Ytfdkbhbnldcbmaa
open Go.RowKit
set_option linter.unusedVariables false
set_option linter.unusedSimpArgs false

/-- what a piece leaves -/
def TakeR (b : Nat) (tk : Nat → Prop) (A : Option Addr) (n c : Nat) (l : List Rule) (ah td : Nat) (s : Play) (cm : Nat) (ch : List Int) (w w' : World) (e : Ending) : Prop :=
  Trn b w w' ∧ e = .returned (.int .i64 (takeF l ah s cm ch).2) ∧
    ((takeF l ah s cm ch).2 = 0 → ∃ X m d, PlAt b (fun k => tk k ∨ w.heap.size ≤ k) w' A n c X m d (takeF l ah s cm ch).1.text (takeF l ah s cm ch).1.at_ td (cm + ch.length) (takeF l ah s cm ch).1.steps ah)
theorem TakeR.bad {b : Nat} {tk : Nat → Prop} {A : Option Addr} {n c : Nat} {l : List Rule} {ah td : Nat} {s : Play} {cm : Nat} {ch : List Int} {w w' : World} {x : Int} (h : Trn b w w') (hx : (takeF l ah s cm ch).2 = x) (h0 : x ≠ 0) :
    TakeR b tk A n c l ah td s cm ch w w' (.returned (.int .i64 x)) := ⟨h, by rw [hx], fun e => absurd (hx.symm.trans e) h0⟩

theorem wrap_small {a : Nat} {k : Nat} (ha : a ≤ 4000) (hk : (k : Int) ≤ 9223372036854775807) (h : ¬ 4000 < IntKind.i64.wrap ((a : Int) + k)) : a + k ≤ 4000 ∨ 4000 < k := by
  by_cases hb : k ≤ 4000
  · rw [IntWalk.i64_in _ (by omega)] at h; omega
  · omega
theorem wrap_big {a : Nat} {k : Nat} (ha : a ≤ 4000) (hk : (k : Int) ≤ 9223372036854775807) (h : 4000 < IntKind.i64.wrap ((a : Int) + k)) : 4000 < a + k := by
  by_cases hb : k ≤ 4000
  · rw [IntWalk.i64_in _ (by omega)] at h; omega
  · omega

section
variable {b : Nat} {tk : Nat → Prop} {w0 w : World} {A : Option Addr} {n c : Nat} {l : List Rule} {X : Option Addr} {m d : Nat} {t : List Int} {a td cm st ah : Nat} (u : Nat) {Y : Option Addr} {k e : Nat} {ch : List Int}
set_option maxRecDepth 100000 in
set_option maxHeartbeats 4000000 in
theorem take_any (E : Ext w0 w) (hb : w0.heap.size ≤ b) (h : Rules w0 A n c l) (hok : ∀ r ∈ l, OkRule r) (C : Runes w0 Y k e ch) (P : PlAt b tk w A n c X m d t a td cm st ah) (hm : m ≤ 4000) (ha : a ≤ m) (hcm : cm ≤ 4000) (hst : st ≤ 8 * cm + 40) (hah : ah ≤ 40) :
    Calls Try.prog 98 #[.pointer (some ⟨b, 0, none⟩), .slice Y k e] w fun x w' => TakeR b tk A n c l ah td ⟨t, a, st, u⟩ cm ch w w' x := by
  have OK := Lib.hid hok; clear hok
  have hPL := Lib.hid P.text.len
  have hCL := Lib.hid C.len
  have hcap := C.cap; have hmax := C.max; unfold maxLen at hmax
  have h1 := P.c1; have h4 := P.c4; have hz := P.wr.2; have hbs := P.wr.1
  have HX := Lib.hid (fun W (e : Ext w0 W) => Text_any _ _ _ ch W (C.ext e))
  have S1 : Hid (¬ 4000 < IntKind.i64.wrap ((cm : Int) + k) → cm + k ≤ 4000 ∨ 4000 < k) := Lib.hid (wrap_small hcm (by omega))
  have S2 : Hid (¬ 4000 < IntKind.i64.wrap ((m : Int) + k) → m + k ≤ 4000 ∨ 4000 < k) := Lib.hid (wrap_small hm (by omega))
  have B1 : Hid (4000 < IntKind.i64.wrap ((cm : Int) + k) → 4000 < cm + k) := Lib.hid (wrap_big hcm (by omega))
  have B2 : Hid (4000 < IntKind.i64.wrap ((m : Int) + k) → 4000 < m + k) := Lib.hid (wrap_big hm (by omega))
  obtain ⟨z1, e1⟩ : ∃ z, IntKind.i64.wrap ((cm : Int) + k) = z := ⟨_, rfl⟩
  obtain ⟨z2, e2⟩ : ∃ z, IntKind.i64.wrap ((m : Int) + k) = z := ⟨_, rfl⟩
  rw [e1] at S1 B1; rw [e2] at S2 B2
  have HE1 := Lib.hid e1
  by_cases g1 : 4000 < z1
  · have HR : Hid ((takeF l ah ⟨t, a, st, u⟩ cm ch).2 = 4) := Lib.hid (by rw [takeF_much (by rw [hCL.out]; exact .inl (B1.out g1))])
    have g1t : decide (4000 < z1) = true := by simpa using g1
    go_enter Try.func98, Try.ntmps98
    go_wp2
    go_ret
    exact TakeR.bad (Trn.refl _ _) HR.out (by omega)
  by_cases g2 : 4000 < z2
  · have HR : Hid ((takeF l ah ⟨t, a, st, u⟩ cm ch).2 = 4) := Lib.hid (by rw [takeF_much (by rw [hCL.out, hPL.out]; exact .inr (B2.out g2))])
    have g1t : decide (4000 < z1) = false := by simpa using g1
    have g2t : decide (4000 < z2) = true := by simpa using g2
    go_enter Try.func98, Try.ntmps98
    go_wp2
    go_ret
    exact TakeR.bad (Trn.refl _ _) HR.out (by omega)
  have g1t : decide (4000 < z1) = false := by simpa using g1
  have g2t : decide (4000 < z2) = false := by simpa using g2
  have q1 := S1.out g1; have q2 := S2.out g2
  by_cases hw : wrongText ch = 0
  · have hk := (text_of hw).1; rw [hCL.out] at hk
    have HN : Hid (takeF l ah ⟨t, a, st, u⟩ cm ch = goOn l ah false (8 * (cm + k) + 40 - st) ⟨t ++ ch, a, st, u⟩) := Lib.hid (by rw [takeF_on (by rw [hCL.out, hPL.out]; omega) hw, hCL.out])
    have HW := Lib.hid hw
    obtain ⟨L, hL⟩ : ∃ L : Nat, L = 8 * (cm + k) + 40 := ⟨_, rfl⟩
    have HLim := Lib.hid hL
    rw [← HLim.out] at HN
    have hcm' : cm + k ≤ 4000 := by omega
    have hmk : m + k ≤ 4000 := by omega
    have hstL : st ≤ L := by omega
    have hL2 : L ≤ 40000 := by omega
    have hz1 : IntKind.i64.wrap ((cm : Int) + k) = (cm : Int) + k := IntWalk.i64_in _ (by omega)
    have HZ : Hid (z1 = ((cm + k : Nat) : Int)) := Lib.hid (by rw [← e1, hz1]; omega)
    have P1 := P.setCame (x := z1) (a' := cm + k) HZ.out
    have T1 := (Trn.refl b w).set 4 (.int .i64 z1)
    clear hw g1 g2 hL q1 q2 hz1
    go_enter Try.func98, Try.ntmps98
    go_upto_region 7 with (go_at_call 24; refine (HX.out _ E).mono ?_; rintro x w1 ⟨rfl, x1⟩; rw [HW.out]; have P0 := P.ext x1; have i4 := P0.c4; have iz := P0.wr.2; have il := P0.wr.1)
    have P2 := P0.setCame (x := z1) (a' := cm + k) HZ.out
    have T2 := (Trn.of b x1).set 4 (.int .i64 z1)
    generalize w1.setCell ⟨b, 4, none⟩ (.int .i64 z1) = w2 at *
    have E2 := T2.run E hb
    have j1 := P2.c1
    have HCl := Lib.hid (fun W (e : Ext w2 W) => Clone_rune one_rune (keep_rune bot) X m d t W (P2.ext e).runes (by omega) (fun _ _ h => h))
    have hlen : Hid ((t ++ ch).length = m + k) := Lib.hid (by rw [List.length_append, hPL.out, hCL.out])
    have hb2 := P2.wr.1
    go_wp2_with (first
      | (go_at_call 91; refine (HCl.out _ (Ext.refl w2)).mono ?_; rintro x w3 ⟨v, rfl, ov, x3⟩)
      | (at_builtin
         refine wpList_appS T_rune (by omega) rfl (.tmp 45) (.tmp 46) rfl rfl ov rfl (C.ext (E2.trans x3)) (fun _ _ h => h) one_rune (keep_rune bot) (bot_no _) ?_ x3.size ?_
         · rw [hPL.out]; omega
         intro v4 w4 o4 g4 hat4
         have x4 := x3.app g4 ov
         obtain ⟨AX, cX, rfl, sX⟩ := o4.sl
         rw [hlen.out] at sX ⊢
         have P4 := P2.ext x4
         have i1 := P4.c1; have iz := P4.wr.2; have il := P4.wr.1))
    have hsz2 : w.heap.size ≤ w2.heap.size := (show w.grownBy w2 (some b) from T2).size
    have sX' : SlR rRune 1 (fun i => i ≠ b ∧ (tk i ∨ w.heap.size ≤ i)) w4 AX (m + k) cX (t ++ ch) := sX.mono (fun _ _ h => h) (fun g hg => by have hg' : w2.heap.size ≤ g := hg; exact ⟨by omega, .inr (by omega)⟩)
    have P5 := P4.setText (tk' := fun i => tk i ∨ w.heap.size ≤ i) sX'
    have T5 := (T2.ext x4).set 1 (.slice AX (m + k) cX)
    clear i1 iz il P4 sX sX' o4 g4 hat4 x4 x3 ov HCl j1
    go_loopw [6] (fun _ wr => ∃ (X' : Option Addr) (m' d' : Nat) (t' : List Int) (a' st' u' : Nat), PlAt b (fun k => tk k ∨ w.heap.size ≤ k) wr A n c X' m' d' t' a' td (cm + k) st' ah ∧ a' ≤ m' ∧ m' ≤ 4000 ∧ st' ≤ L ∧ Hid (takeF l ah ⟨t, a, st, u⟩ cm ch = goOn l ah false (L - st') ⟨t', a', st', u'⟩) ∧ Trn b w wr)
      (fun _ wr => L - cellN (wr.cell? ⟨b, 5, none⟩))
    case atStart => exact ⟨AX, m + k, cX, t ++ ch, a, st, u, P5, by omega, hmk, hstL, HN, T5⟩
    case round =>
      obtain ⟨X', m', d', t', a', st', u', PA, ha', hm', hs', HG, hT⟩ := hrel
      have ER := hT.run E hb
      have hszr : w.heap.size ≤ wr.heap.size := (show w.grownBy wr (some b) from hT).size
      have HM := Lib.hid (more_any PA hm' ha' hcm' (by omega) hah)
      have hPL' := Lib.hid PA.text.len
      have HPA := Lib.hid PA
      clear PA P5 T5 P2 T2 x1 P0 E2 P1 T1
      by_cases hgo : a' + ah < m' ∧ st' < L
      · have HB : Hid ((decide (a' + ah < m') && decide (st' < 8 * (cm + k) + 40)) = true) := Lib.hid (by rw [← HLim.out]; simp [hgo.1, hgo.2])
        have hcond : (⟨t', a', st', u'⟩ : Play).at_ < (⟨t', a', st', u'⟩ : Play).text.length ∧ (false = true ∨ (⟨t', a', st', u'⟩ : Play).at_ + ah < (⟨t', a', st', u'⟩ : Play).text.length) := by
          simp only [hPL'.out]; omega
        have hal : a' < m' := by omega
        have hstl : st' < L := hgo.2
        cases hs : playStep l ⟨t', a', st', u'⟩ with
        | none =>
          have HR : Hid ((takeF l ah ⟨t, a, st, u⟩ cm ch).2 = 4) := Lib.hid (by rw [HG.out, show L - st' = (L - (st' + 1)) + 1 by omega, goOn_none hcond hs])
          have HS := Lib.hid hs
          clear hs hcond hgo
          go_wp2_with (first
            | (go_at_call 142; refine HM.out.mono ?_; rintro x w6 ⟨rfl, kk, rfl⟩; rw [HB.out])
            | (go_at_call 143; refine (step_any u' (ER.drewN kk) hb h OK.out (HPA.out.ext ((Ext.refl wr).drewN kk)) hm' hal (by omega)).mono ?_; rintro x w7 ⟨T7, hq⟩; obtain ⟨_, rfl⟩ := hq.resolve_left (fun ⟨q, _, _, _, hq, _⟩ => by rw [HS.out] at hq; cases hq)))
          go_ret
          exact TakeR.bad ((hT.ext ((Ext.refl wr).drewN kk)).trans T7) HR.out (by omega)
        | some q =>
          obtain ⟨t2, a2, s2, u2⟩ := q
          obtain ⟨k1, k2, k3⟩ := playStep_inv OK.out (L := st') (p := ⟨t', a', st', u'⟩) ⟨by simp only [hPL'.out]; exact ha', by simp only [hPL'.out]; exact hm', Nat.le_refl _⟩ hs hcond.1
          have HR : Hid (takeF l ah ⟨t, a, st, u⟩ cm ch = goOn l ah false (L - s2) ⟨t2, a2, s2, u2⟩) := Lib.hid (by
            simp only at k3
            rw [HG.out, show L - st' = (L - s2) + 1 by omega, goOn_next hcond hs])
          have HS := Lib.hid hs
          have k11 := k1.at_; have k12 := k1.len
          simp only at k3 k11 k12
          clear hs hcond hgo k1 k2
          go_wp2_with (first
            | (go_at_call 142; refine HM.out.mono ?_; rintro x w6 ⟨rfl, kk, rfl⟩; rw [HB.out])
            | (go_at_call 143; refine (step_any u' (ER.drewN kk) hb h OK.out (HPA.out.ext ((Ext.refl wr).drewN kk)) hm' hal (by omega)).mono ?_; rintro x w7 ⟨T7, hq⟩; obtain ⟨q, X2, m2, d2, hq2, rfl, P7⟩ := hq.resolve_right (fun hq3 => by have := hq3.1; rw [HS.out] at this; cases this)))
          obtain rfl : ⟨t2, a2, s2, u2⟩ = q := Option.some.inj (HS.out.symm.trans hq2)
          have l2 := P7.text.len
          have P8 := P7.mono (tk' := fun i => tk i ∨ w.heap.size ≤ i) (fun i hi => by rcases hi with hi | hi; exact hi; exact .inr (Nat.le_trans hszr (Nat.le_trans (show wr.heap.size ≤ (wr.drewN kk).heap.size from Nat.le_refl _) hi)))
          go_roundw
          case rel => exact ⟨X2, m2, d2, t2, a2, s2, u2, P8, by simp only at l2; omega, by simp only at l2; omega, by omega, HR, (hT.ext ((Ext.refl wr).drewN kk)).trans T7⟩
          case measure => rw [cellN_nat P7.c5, cellN_nat HPA.out.c5]; simp only; omega
      · have HB : Hid ((decide (a' + ah < m') && decide (st' < 8 * (cm + k) + 40)) = false) := Lib.hid (by
          rw [← HLim.out]
          simp only [Bool.and_eq_false_iff, decide_eq_false_iff_not]
          omega)
        have HR : Hid (takeF l ah ⟨t, a, st, u⟩ cm ch = (⟨t', a', st', u'⟩, 0)) := Lib.hid (by rw [HG.out, goOn_stop (by simp only [hPL'.out]; omega)])
        clear hgo
        go_wp2_with (go_at_call 142; refine HM.out.mono ?_; rintro x w6 ⟨rfl, kk, rfl⟩; rw [HB.out])
        go_ret
        refine ⟨hT.ext ((Ext.refl wr).drewN kk), by rw [HR.out]; rfl, fun _ => ⟨X', m', d', ?_⟩⟩
        rw [HR.out, hCL.out]
        exact HPA.out.ext ((Ext.refl wr).drewN kk)
  · have HW : Hid ((takeF l ah ⟨t, a, st, u⟩ cm ch).2 = wrongText ch) := Lib.hid (by
      by_cases hmu : 4000 < cm + ch.length ∨ 4000 < t.length + ch.length
      · rw [takeF_much hmu]
        rw [hCL.out, hPL.out] at hmu
        unfold wrongText; rw [if_pos (by rw [hCL.out]; omega)]
      · rw [takeF_bad hmu hw])
    have hw' : (wrongText ch != 0) = true := by simpa using hw
    have HW0 := Lib.hid hw
    clear hw g1 g2 q1 q2
    go_enter Try.func98, Try.ntmps98
    go_wp2_with (go_at_call 24; refine (HX.out _ E).mono ?_; rintro x w1 ⟨rfl, x1⟩)
    go_ret
    exact TakeR.bad (Trn.of b x1) HW.out HW0.out

/-- what is left in the end -/
def EndR (b : Nat) (tk : Nat → Prop) (A : Option Addr) (n c : Nat) (l : List Rule) (ah td cm : Nat) (s : Play) (w w' : World) (e : Ending) : Prop :=
  Trn b w w' ∧ e = .returned (.int .i64 (goOn l ah true (8 * cm + 40 - s.steps) s).2) ∧
    ((goOn l ah true (8 * cm + 40 - s.steps) s).2 = 0 → ∃ X m d, PlAt b (fun k => tk k ∨ w.heap.size ≤ k) w' A n c X m d (goOn l ah true (8 * cm + 40 - s.steps) s).1.text (goOn l ah true (8 * cm + 40 - s.steps) s).1.at_ td cm (goOn l ah true (8 * cm + 40 - s.steps) s).1.steps ah)

set_option maxRecDepth 100000 in
set_option maxHeartbeats 4000000 in
theorem end_any (E : Ext w0 w) (hb : w0.heap.size ≤ b) (h : Rules w0 A n c l) (hok : ∀ r ∈ l, OkRule r) (P : PlAt b tk w A n c X m d t a td cm st ah) (hm : m ≤ 4000) (ha : a ≤ m) (hcm : cm ≤ 4000) (hst : st ≤ 8 * cm + 40) :
    Calls Try.prog 100 #[.pointer (some ⟨b, 0, none⟩)] w fun x w' => EndR b tk A n c l ah td cm ⟨t, a, st, u⟩ w w' x := by
  have OK := Lib.hid hok; clear hok
  have HL := Lib.hid (fun W => (Limit_any cm W hcm).mono (R' := fun e w' => e = .returned (.int .i64 ((8 * cm + 40 : Nat) : Int)) ∧ w' = W) (fun e w' h => ⟨h.1, h.2.symm⟩))
  unfold EndR
  simp only
  obtain ⟨L, hL⟩ : ∃ L : Nat, L = 8 * cm + 40 := ⟨_, rfl⟩
  rw [← hL] at HL hst ⊢
  have hL2 : L ≤ 40000 := by omega
  clear hL
  have HP := Lib.hid P; clear P
  go_enter Try.func100, Try.ntmps100
  go_wp2
  go_loopw [3] (fun _ wr => ∃ (X' : Option Addr) (m' d' : Nat) (t' : List Int) (a' st' u' : Nat), PlAt b (fun k => tk k ∨ w.heap.size ≤ k) wr A n c X' m' d' t' a' td cm st' ah ∧ a' ≤ m' ∧ m' ≤ 4000 ∧ st' ≤ L ∧ Hid (goOn l ah true (L - st) ⟨t, a, st, u⟩ = goOn l ah true (L - st') ⟨t', a', st', u'⟩) ∧ Trn b w wr)
    (fun _ wr => L - cellN (wr.cell? ⟨b, 5, none⟩))
  case atStart => exact ⟨X, m, d, t, a, st, u, HP.out.mono fun _ h => .inl h, ha, hm, hst, Lib.hid rfl, Trn.refl _ _⟩
  case round =>
    obtain ⟨X', m', d', t', a', st', u', PA, ha', hm', hs', HG, hT⟩ := hrel
    have ER := hT.run E hb
    have hszr : w.heap.size ≤ wr.heap.size := (show w.grownBy wr (some b) from hT).size
    have hPL' := Lib.hid PA.text.len
    have HPA := Lib.hid PA
    have c1 := PA.c1; have c2 := PA.c2; have c4 := PA.c4; have c5 := PA.c5
    clear PA
    by_cases hal : a' < m'
    · have hcond : (⟨t', a', st', u'⟩ : Play).at_ < (⟨t', a', st', u'⟩ : Play).text.length ∧ (true = true ∨ (⟨t', a', st', u'⟩ : Play).at_ + ah < (⟨t', a', st', u'⟩ : Play).text.length) := by
        simp only [hPL'.out]; exact ⟨hal, .inl trivial⟩
      by_cases hsl : st' = L
      · have hq : ((st' : Int) == (L : Int)) = true := by rw [hsl]; simp
        have HR : Hid (goOn l ah true (L - st) ⟨t, a, st, u⟩ = (⟨t', a', st', u'⟩, 9)) := Lib.hid (by
          rw [HG.out, show L - st' = 0 by omega, goOn_out hcond]; rfl)
        clear hcond hsl
        go_wp2
        go_quiet (fail)
        go_wp2
        go_quiet ((go_at_call 92; exact (HL.out _).mono (fun e w' h => ⟨h.1, _, h.2⟩)))
        go_wp2
        go_ret
        refine ⟨hT.ext (((Ext.refl wr).drewN _).drewN _), by rw [HR.out]; rfl, fun h0 => ?_⟩
        rw [HR.out] at h0; cases h0
      · have hq : ((st' : Int) == (L : Int)) = false := by simp; omega
        have hstl : st' < L := by omega
        clear hsl
        cases hs : playStep l ⟨t', a', st', u'⟩ with
        | none =>
          have HR : Hid (goOn l ah true (L - st) ⟨t, a, st, u⟩ = (⟨t', a', st', u'⟩, 4)) := Lib.hid (by rw [HG.out, show L - st' = (L - (st' + 1)) + 1 by omega, goOn_none hcond hs])
          have HS := Lib.hid hs
          clear hs hcond
          go_wp2
          go_quiet (fail)
          have X1 := (Ext.refl wr).drewN nq
          generalize wr.drewN nq = w3 at *
          have e4 := X1.cell c4; have e5 := X1.cell c5
          go_wp2
          go_quiet ((go_at_call 92; exact (HL.out _).mono (fun e w' h => ⟨h.1, _, h.2⟩)))
          have X2 := X1.drewN nq
          go_wp2_with (go_at_call 143; refine (step_any u' (ER.trans X2) hb h OK.out (HPA.out.ext X2) hm' hal (by omega)).mono ?_; rintro x w7 ⟨T7, hq0⟩; obtain ⟨_, rfl⟩ := hq0.resolve_left (fun ⟨q, _, _, _, hq3, _⟩ => by rw [HS.out] at hq3; cases hq3))
          go_ret
          refine ⟨(hT.ext X2).trans T7, by rw [HR.out]; rfl, fun h0 => ?_⟩
          rw [HR.out] at h0; cases h0
        | some q =>
          obtain ⟨t2, a2, s2, u2⟩ := q
          obtain ⟨k1, k2, k3⟩ := playStep_inv OK.out (L := st') (p := ⟨t', a', st', u'⟩) ⟨by simp only [hPL'.out]; exact ha', by simp only [hPL'.out]; exact hm', Nat.le_refl _⟩ hs hcond.1
          have HR : Hid (goOn l ah true (L - st) ⟨t, a, st, u⟩ = goOn l ah true (L - s2) ⟨t2, a2, s2, u2⟩) := Lib.hid (by
            simp only at k3
            rw [HG.out, show L - st' = (L - s2) + 1 by omega, goOn_next hcond hs])
          have HS := Lib.hid hs
          have k11 := k1.at_; have k12 := k1.len
          simp only at k3 k11 k12
          clear hs hcond k1 k2
          go_wp2
          go_quiet (fail)
          have X1 := (Ext.refl wr).drewN nq
          generalize wr.drewN nq = w3 at *
          have e4 := X1.cell c4; have e5 := X1.cell c5
          go_wp2
          go_quiet ((go_at_call 92; exact (HL.out _).mono (fun e w' h => ⟨h.1, _, h.2⟩)))
          have X2 := X1.drewN nq
          go_wp2_with (go_at_call 143; refine (step_any u' (ER.trans X2) hb h OK.out (HPA.out.ext X2) hm' hal (by omega)).mono ?_; rintro x w7 ⟨T7, hq0⟩; obtain ⟨q, Y2, m2, d2, hq2, rfl, P7⟩ := hq0.resolve_right (fun hq3 => by have := hq3.1; rw [HS.out] at this; cases this))
          obtain rfl : ⟨t2, a2, s2, u2⟩ = q := Option.some.inj (HS.out.symm.trans hq2)
          have l2 := P7.text.len
          have P8 := P7.mono (tk' := fun i => tk i ∨ w.heap.size ≤ i) (fun i hi => by rcases hi with hi | hi; exact hi; exact .inr (Nat.le_trans hszr (Nat.le_trans X2.size hi)))
          go_roundw
          case rel => exact ⟨Y2, m2, d2, t2, a2, s2, u2, P8, by simp only at l2; omega, by simp only at l2; omega, by omega, HR, (hT.ext X2).trans T7⟩
          case measure => rw [cellN_nat P7.c5, cellN_nat HPA.out.c5]; simp only; omega
    · have HR : Hid (goOn l ah true (L - st) ⟨t, a, st, u⟩ = (⟨t', a', st', u'⟩, 0)) := Lib.hid (by rw [HG.out, goOn_end (by simp only [hPL'.out]; exact fun hc => hal hc.1)])
      go_wp2
      go_quiet (fail)
      go_wp2
      go_ret
      refine ⟨hT.ext ((Ext.refl wr).drewN _), by rw [HR.out]; rfl, fun _ => ⟨X', m', d', ?_⟩⟩
      rw [HR.out]
      exact HPA.out.ext ((Ext.refl wr).drewN _)
end

end Go.Proofs.Ytfdkbhbnldcbmaa
