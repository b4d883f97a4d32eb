/- Walk: on as far as may be, by the document. -/
import Derived.Test.YtfdkbhbnldcbmaaPl12
import Derived.Test.YtfdkbhbnldcbmaaW56
import Derived.Test.YtfdkbhbnldcbmaaW8
import Derived.StillTailTactics
import Derived.Deep.Cut
import Derived.Deep.CutRange
namespace Go.Proofs.Ytfdkbhbnldcbmaa
open Go.RowKit
set_option linter.unusedVariables false
set_option linter.unusedSimpArgs false

/-- the document's state: its own three cells, and the three of the result -/
structure StAt (b : Nat) (tk : Nat → Prop) (w : World) (X : Option Addr) (m d : Nat) (t : List Int) (a st : Nat) : Prop where
  text : SlR rRune 1 (fun k => (k ≠ b ∧ k ≠ b + 1) ∧ tk k) w X m d t
  c0 : w.cell? ⟨b, 0, none⟩ = some (.slice X m d)
  c1 : w.cell? ⟨b, 1, none⟩ = some (.int .i64 a)
  c2 : w.cell? ⟨b, 2, none⟩ = some (.int .i64 st)
  r0 : w.cell? ⟨b + 1, 0, none⟩ = some (.slice none 0 0)
  r1 : w.cell? ⟨b + 1, 1, none⟩ = some (.int .i64 0)
  r2 : w.cell? ⟨b + 1, 2, none⟩ = some (.int .i64 0)
  wr : Wr w b
  wr' : Wr w (b + 1)
section
variable {b : Nat} {tk : Nat → Prop} {w w' : World} {X : Option Addr} {m d : Nat} {t : List Int} {a st : Nat}
theorem set_far2 {b o o' B : Nat} {x u : Value} (h : w.cell? ⟨b, o, none⟩ = some x) (hn : b ≠ B) : (w.setCell ⟨B, o', none⟩ u).cell? ⟨b, o, none⟩ = some x := by
  rw [World.cell?_setCell_other _ _ _ _ (by intro e; cases e; exact hn rfl)]; exact h
theorem StAt.ext (h : StAt b tk w X m d t a st) (e : Ext w w') : StAt b tk w' X m d t a st :=
  ⟨h.text.ext (keep_rune _) e, e.cell h.c0, e.cell h.c1, e.cell h.c2, e.cell h.r0, e.cell h.r1, e.cell h.r2, h.wr.ext e, h.wr'.ext e⟩
theorem StAt.runes (h : StAt b tk w X m d t a st) : Runes w X m d t := h.text.mono (fun _ _ h => h) (fun _ _ => trivial)
theorem StAt.setAt (h : StAt b tk w X m d t a st) {x : Int} {a' : Nat} (hx : x = (a' : Nat)) : StAt b tk (w.setCell ⟨b, 1, none⟩ (.int .i64 x)) X m d t a' st :=
  ⟨h.text.keep (keep_rune _) ((agree_set _ _ _ _).mono fun _ h => h.1.1), set_other h.c0 (by omega), hx ▸ set_same h.c1, set_other h.c2 (by omega), set_far2 h.r0 (by omega), set_far2 h.r1 (by omega), set_far2 h.r2 (by omega), h.wr.set _ _, h.wr'.set _ _⟩
theorem StAt.setSteps (h : StAt b tk w X m d t a st) {x : Int} {a' : Nat} (hx : x = (a' : Nat)) : StAt b tk (w.setCell ⟨b, 2, none⟩ (.int .i64 x)) X m d t a a' :=
  ⟨h.text.keep (keep_rune _) ((agree_set _ _ _ _).mono fun _ h => h.1.1), set_other h.c0 (by omega), set_other h.c1 (by omega), hx ▸ set_same h.c2, set_far2 h.r0 (by omega), set_far2 h.r1 (by omega), set_far2 h.r2 (by omega), h.wr.set _ _, h.wr'.set _ _⟩
theorem StAt.setText (h : StAt b tk w X m d t a st) {X' : Option Addr} {m' d' : Nat} {t' : List Int} (hs : SlR rRune 1 (fun k => (k ≠ b ∧ k ≠ b + 1) ∧ tk k) w X' m' d' t') : StAt b tk (w.setCell ⟨b, 0, none⟩ (.slice X' m' d')) X' m' d' t' a st :=
  ⟨hs.keep (keep_rune _) ((agree_set _ _ _ _).mono fun _ h => h.1.1), set_same h.c0, set_other h.c1 (by omega), set_other h.c2 (by omega), set_far2 h.r0 (by omega), set_far2 h.r1 (by omega), set_far2 h.r2 (by omega), h.wr.set _ _, h.wr'.set _ _⟩
end

theorem StAt.res {b : Nat} {tk : Nat → Prop} {w : World} {X : Option Addr} {m d : Nat} {t : List Int} {a st : Nat} (h : StAt b tk w X m d t a st) {x y z : Value} :
    SlR rRune 1 tk (((w.setCell ⟨b + 1, 0, none⟩ x).setCell ⟨b + 1, 1, none⟩ y).setCell ⟨b + 1, 2, none⟩ z) X m d t :=
  (((h.text.keep (keep_rune _) ((agree_set _ _ _ _).mono fun _ h => h.1.2)).keep (keep_rune _) ((agree_set _ _ _ _).mono fun _ h => h.1.2)).keep (keep_rune _) ((agree_set _ _ _ _).mono fun _ h => h.1.2)).mono (fun _ _ h => h) (fun _ h => h.2)
/-- what the document's going on leaves -/
def GoR (tk : Nat → Prop) (N : Nat) (l : List Rule) (ah : Nat) (fin : Bool) (L : Nat) (p : Play) (w' : World) (x : Ending) : Prop :=
  ∃ Y k e a' s', x = .returned (.tuple #[.agg #[.slice Y k e, .int .i64 a', .int .i64 s'], .int .i64 (goOn l ah fin (L - p.steps) p).2]) ∧
    ((goOn l ah fin (L - p.steps) p).2 = 0 → SlR rRune 1 (fun i => tk i ∨ N ≤ i) w' Y k e (goOn l ah fin (L - p.steps) p).1.text ∧ a' = ((goOn l ah fin (L - p.steps) p).1.at_ : Int) ∧ s' = ((goOn l ah fin (L - p.steps) p).1.steps : Int))

section
variable (A : Option Addr) (n c : Nat) (l : List Rule) (X : Option Addr) (m d : Nat) (t : List Int) (a st cm u : Nat) (w : World) (tk : Nat → Prop)
set_option maxRecDepth 100000 in
set_option maxHeartbeats 8000000 in
theorem refGo_any (h : Rules w A n c l) (hok : ∀ r ∈ l, OkRule r) (ht : SlR rRune 1 tk w X m d t) (hm : m ≤ 4000) (ha : a ≤ m) (hcm : cm ≤ 4000) (hst : st ≤ 8 * cm + 40) (fin : Bool) :
    Calls Try.prog 101 #[.slice A n c, .agg #[.slice X m d, .int .i64 a, .int .i64 st], .int .i64 cm, .bool fin] w fun x w' => GoR tk w.heap.size l (reachB l 0 0).2 fin (8 * cm + 40) ⟨t, a, st, u⟩ w' x ∧ Ext w w' := by
  have HAH := Lib.hid (reachB_le l 0 0 hok (by omega) (by omega)).2
  have OK := Lib.hid hok
  have e1 := ((Ext.refl w).alloc (.cells #[.slice X m d, .int .i64 a, .int .i64 st] 124)).alloc (.cells #[.slice none 0 0, .int .i64 0, .int .i64 0] 124)
  have S0 : StAt w.heap.size (fun i => tk i ∨ w.heap.size ≤ i) ((w.alloc (.cells #[.slice X m d, .int .i64 a, .int .i64 st] 124)).alloc (.cells #[.slice none 0 0, .int .i64 0, .int .i64 0] 124)) X m d t a st :=
    ⟨((SlR.lt (by omega) ht).mono (fun _ _ h => h) (fun k hk => by have := hk.2; exact ⟨⟨by omega, by omega⟩, .inl hk.1⟩)).ext (keep_rune _) e1, by simp, by simp, by simp, by simp, by simp, by simp,
      (Wr.new w _ _).ext ((Ext.refl _).alloc _), by simpa using Wr.new (w.alloc (.cells #[.slice X m d, .int .i64 a, .int .i64 st] 124)) #[.slice none 0 0, .int .i64 0, .int .i64 0] 124⟩
  have HRc := Lib.hid (refReachB_any A n c l _ (h.ext e1) hok)
  generalize (reachB l 0 0).1 = r1 at *
  generalize (reachB l 0 0).2 = ah at *
  have HS0 := Lib.hid S0; have HE1 := Lib.hid e1
  clear S0 e1 hok
  unfold GoR
  simp only
  obtain ⟨L, hL⟩ : ∃ L : Nat, L = 8 * cm + 40 := ⟨_, rfl⟩
  have HL := Lib.hid hL
  rw [← hL] at hst ⊢
  have hL2 : L ≤ 40000 := by omega
  have hLi : (8 * (cm : Int) + 40) = (L : Int) := by omega
  clear hL
  cases fin
  · go_enter Try.func101, Try.ntmps101
    go_wp2_with (go_at_call 74; refine HRc.out.mono ?_; rintro x w1 ⟨rfl, x1⟩)
    have e2 := HE1.out.trans x1
    have S1 := HS0.out.ext x1
    go_loopw [12] (fun _ wr => ∃ (X' : Option Addr) (m' d' : Nat) (t' : List Int) (a' st' u' : Nat), StAt w.heap.size (fun i => tk i ∨ w.heap.size ≤ i) wr X' m' d' t' a' st' ∧ a' ≤ m' ∧ m' ≤ 4000 ∧ st' ≤ L ∧ Hid (goOn l ah false (L - st) ⟨t, a, st, u⟩ = goOn l ah false (L - st') ⟨t', a', st', u'⟩) ∧ Ext w wr)
      (fun _ wr => L - cellN (wr.cell? ⟨w.heap.size, 2, none⟩))
    case atStart => exact ⟨X, m, d, t, a, st, u, S1, ha, hm, hst, Lib.hid rfl, e2⟩
    case round =>
      obtain ⟨X', m', d', t', a', st', u', SA, ha', hm', hs', HG, hx⟩ := hrel
      have hPL := Lib.hid SA.text.len
      have HSA := Lib.hid SA
      have f0 := SA.r0; have f1 := SA.r1; have f2 := SA.r2; have fz := SA.wr'.2; have fl := SA.wr'.1
      have g0 := SA.c0; have g1 := SA.c1; have g2 := SA.c2; have gz := SA.wr.2; have gl := SA.wr.1
      have hah := HAH.out
      have hw1 : IntKind.i64.wrap ((a' : Int) + ah) = (a' : Int) + ah := IntWalk.i64_in _ (by omega)
      clear SA S1
      by_cases hal : a' < m'
      · have hal' : decide ((a' : Int) < (m' : Int)) = true := by simpa using hal
        by_cases hgo : false = true ∨ a' + ah < m'
        · have hcond : (⟨t', a', st', u'⟩ : Play).at_ < (⟨t', a', st', u'⟩ : Play).text.length ∧ (false = true ∨ (⟨t', a', st', u'⟩ : Play).at_ + ah < (⟨t', a', st', u'⟩ : Play).text.length) := by
            simp only [hPL.out]; exact ⟨hal, hgo⟩
          have hg3 : decide ((m' : Int) ≤ (a' : Int) + (ah : Int)) = false := by simp; have := hgo.resolve_left (by simp); omega
          by_cases hsl : st' = L
          · have hq : ((st' : Int) == (L : Int)) = true := by rw [hsl]; simp
            have HR : Hid (goOn l ah false (L - st) ⟨t, a, st, u⟩ = (⟨t', a', st', u'⟩, 0)) := Lib.hid (by
              rw [HG.out, show L - st' = 0 by omega, goOn_out hcond]; rfl)
            clear hcond hsl hgo
            go_wp2
            refine bodyPost_ret (v := .tuple #[.agg #[.slice X' m' d', .int .i64 a', .int .i64 st'], .int .i64 0]) (by simp [results, Try.results101, go_sem, f0, f1, f2]) rfl ?_
            exact ⟨⟨X', m', d', _, _, by rw [HR.out], fun h0 => by rw [HR.out]; exact ⟨HSA.out.res, rfl, rfl⟩⟩, ext_set (ext_set (ext_set hx (by omega) _ _) (by omega) _ _) (by omega) _ _⟩
          · have hq : ((st' : Int) == (L : Int)) = false := by simp; omega
            have hstl : st' < L := by omega
            clear hsl hgo
            have hw2 : IntKind.i64.wrap ((st' : Int) + 1) = (st' : Int) + 1 := IntWalk.i64_in _ (by omega)
            have S2 := HSA.out.setSteps (x := (st' : Int) + 1) (a' := st' + 1) (by omega)
            have y2 := ext_set hx (Nat.le_refl _) 2 (.int .i64 ((st' : Int) + 1))
            by_cases hk : first l t' a' < 0
            · have HR : Hid (goOn l ah false (L - st) ⟨t, a, st, u⟩ = goOn l ah false (L - (st' + 1)) ⟨t', a' + 1, st' + 1, u'⟩) := Lib.hid (by
                rw [HG.out, show L - st' = (L - (st' + 1)) + 1 by omega, goOn_next hcond (playStep_no hk)])
              have hk' : decide (first l t' a' < 0) = true := by simpa using hk
              have hw3 : IntKind.i64.wrap ((a' : Int) + 1) = (a' : Int) + 1 := IntWalk.i64_in _ (by omega)
              clear hk hcond
              go_wp2_with (go_at_call 35; refine (refWhich_any A n c l X' m' d' t' a' _ (h.ext y2) S2.runes hm' ha' OK.out).mono ?_; rintro x w4 ⟨rfl, x4⟩; have S4 := S2.ext x4; have j1 := S4.c1; have jz := S4.wr.2; have jl := S4.wr.1)
              have S5 := S4.setAt (x := (a' : Int) + 1) (a' := a' + 1) (by omega)
              go_roundw
              case rel => exact ⟨X', m', d', t', a' + 1, st' + 1, u', S5, by omega, hm', by omega, HR, ext_set (y2.trans x4) (Nat.le_refl _) _ _⟩
              case measure => rw [cellN_nat S5.c2, cellN_nat HSA.out.c2]; omega
            · obtain ⟨i, r, hir, hhere, hfi⟩ := first_mem (by omega : 0 ≤ first l t' a')
              have hroom := here_room hhere; rw [hPL.out] at hroom
              have hrok := OK.out r (List.mem_of_getElem? hir)
              have hok2 := hrok.ls; have hok4 := hrok.lt
              have hil : i < n := by rw [← h.len]; exact (List.getElem?_eq_some_iff.1 hir).1
              have HI := Lib.hid hir; have HFI := Lib.hid hfi; have HRO := Lib.hid hrok
              obtain ⟨bo, off, s', f', A1, n1', c1, A2, n2, c2, A3, n3, c3, A4, n4, c4, q, rfl, ⟨hbo, _⟩, hv, r0, r1', r2, r3, r4, r5, r6⟩ := h.rule HI.out
              have hl2 := hok2; rw [hv.source.len] at hl2
              have hl4 := hok4; rw [hv.target.len] at hl4
              have HN2 := Lib.hid hv.source.len
              have HN4 := Lib.hid hv.target.len
              have HQ := Lib.hid hv.cursor
              have HV := Lib.hid hv
              have hq0 := hrok.c0; have hq1 := hrok.c1
              rw [hv.cursor] at hq0 hq1; rw [hv.target.len] at hq1
              have hnb : bo ≠ w.heap.size := by omega
              rw [HN2.out] at hroom
              have hk' : decide ((i : Int) < 0) = false := by simp
              have R0 := Lib.hid r0; have R1 := Lib.hid r1'; have R2 := Lib.hid r2; have R3 := Lib.hid r3; have R4 := Lib.hid r4; have R5 := Lib.hid r5; have R6 := Lib.hid r6
              have HC := Lib.hid hcond
              clear hcond hk hir hhere hfi hrok hv hok2 hok4 r0 r1' r2 r3 r4 r5 r6
              go_wp2_with (go_at_call 35; refine (refWhich_any _ n c l X' m' d' t' a' _ (h.ext y2) S2.runes hm' ha' OK.out).mono ?_; rintro x w4 ⟨rfl, x4⟩; rw [HFI.out]; have S4 := S2.ext x4; have y4 := y2.trans x4; have j0 := S4.c0; have j1 := S4.c1; have t0 := y4.cell R0.out; have t1 := y4.cell R1.out; have t2 := y4.cell R2.out; have t3 := y4.cell R3.out; have t4 := y4.cell R4.out; have t5 := y4.cell R5.out; have t6 := y4.cell R6.out)
              go_still_tail 8, (by kernel_rfl)
              change wpList _ _ _ _ _ w4.drew
              clear t0 t1 t2 t3 t4 t5 t6 j0 j1
              have x5 := (Ext.refl w4).drew
              have S5 := S4.ext x5; have y5 := y4.trans x5
              have HPU := refPut_any s' f' A1 n1' c1 A2 n2 c2 A3 n3 c3 A4 n4 c4 q r w4.drew X' m' d' t' a' S5.runes hm' hroom hl4 (HV.out.ext (y5.agree top))
              rw [show t'.take a' ++ r.target ++ t'.drop (a' + n2) = putAt r t' a' by unfold putAt; rw [HN2.out]] at HPU
              have hplen := putAt_len (r := r) (t := t') (a := a') (by rw [HN2.out, hPL.out]; exact hroom)
              rw [hPL.out, HN2.out, HN4.out] at hplen
              obtain ⟨pl, hpl⟩ : ∃ pl, putAt r t' a' = pl := ⟨_, rfl⟩
              rw [hpl] at HPU hplen
              have HP := Lib.hid HPU
              clear HPU
              by_cases hbig : 4000 < (m' : Int) - (n2 : Int) + (n4 : Int)
              · have HR : Hid (goOn l ah false (L - st) ⟨t, a, st, u⟩ = (⟨t', a', st', u'⟩, 4)) := Lib.hid (by
                  rw [HG.out, show L - st' = (L - (st' + 1)) + 1 by omega, goOn_none HC.out (playStep_much HFI.out HI.out (by rw [hPL.out, HN2.out, HN4.out]; exact hbig))])
                have HB : decide (4000 < (pl.length : Int)) = true := by simp; omega
                clear hbig hplen
                go_wp2_with (go_at_call 29; refine HP.out.mono ?_; rintro x w6 ⟨v, rfl, o6, x6⟩; obtain ⟨AP, cP, rfl, sP⟩ := o6.sl; have S6 := S5.ext x6; have j0 := S6.c0; have j1 := S6.c1; have j2 := S6.c2; have j3 := S6.r0; have j4 := S6.r1; have j5 := S6.r2; have jz := S6.wr'.2; have jl := S6.wr'.1)
                refine bodyPost_ret (v := .tuple #[.agg #[.slice X' m' d', .int .i64 a', .int .i64 ((st' : Int) + 1)], .int .i64 4]) (by simp [results, Try.results101, go_sem, j3, j4, j5]) rfl ?_
                exact ⟨⟨X', m', d', _, _, by rw [HR.out], fun h0 => by rw [HR.out] at h0; cases h0⟩, ext_set (ext_set (ext_set (y5.trans x6) (by omega) _ _) (by omega) _ _) (by omega) _ _⟩
              · have HR : Hid (goOn l ah false (L - st) ⟨t, a, st, u⟩ = goOn l ah false (L - (st' + 1)) ⟨pl, a' + r.cursor.toNat, st' + 1, u' + 1⟩) := Lib.hid (by
                  rw [HG.out, show L - st' = (L - (st' + 1)) + 1 by omega, goOn_next HC.out (playStep_put HFI.out HI.out (by rw [hPL.out, HN2.out, HN4.out]; exact hbig)), hpl])
                have HB : decide (4000 < (pl.length : Int)) = false := by simp; omega
                go_upto_region 17 with (go_at_call 29; refine HP.out.mono ?_; rintro x w6 ⟨v, rfl, o6, x6⟩; obtain ⟨AP, cP, rfl, sP⟩ := o6.sl; have S6 := S5.ext x6; have y6 := y5.trans x6; have j0 := S6.c0; have jz := S6.wr.2; have jl := S6.wr.1)
                have hb4 : w.heap.size + 2 ≤ w4.heap.size := S4.wr'.1
                have hd4 : w4.drew.heap.size = w4.heap.size := rfl
                have S7 := S6.setText (t' := pl) (X' := AP) (m' := pl.length) (d' := cP) (sP.mono (fun _ _ h => h) (fun k hk => by have hk' : w4.drew.heap.size ≤ k := hk; exact ⟨⟨by omega, by omega⟩, .inr (by omega)⟩))
                have y7 := ext_set y6 (Nat.le_refl _) 0 (.slice AP pl.length cP)
                generalize w6.setCell ⟨w.heap.size, 0, none⟩ (.slice AP pl.length cP) = w7 at *
                have j1 := S7.c1
                have t6 := y7.cell R6.out
                have hw7 : IntKind.i64.wrap ((a' : Int) + q) = (a' : Int) + q := IntWalk.i64_in _ (by omega)
                go_still_tail 9, (by kernel_rfl)
                change wpList _ _ _ _ _ w7.drew
                have S8 := S7.ext (Ext.refl w7).drew
                have y8 := y7.drew
                have hcur : Hid (((a' : Int) + q) = ((a' + r.cursor.toNat : Nat) : Int)) := Lib.hid (by rw [HQ.out]; omega)
                have i1 := S8.c1; have iz := S8.wr.2; have il := S8.wr.1
                generalize w7.drew = w8 at *
                go_wp2
                have S9 := S8.setAt hcur.out
                go_roundw
                case rel => exact ⟨AP, pl.length, cP, pl, a' + r.cursor.toNat, st' + 1, u' + 1, S9, by rw [HQ.out]; omega, by omega, by omega, HR, ext_set y8 (Nat.le_refl _) _ _⟩
                case measure => rw [cellN_nat S9.c2, cellN_nat HSA.out.c2]; omega
        · have HR : Hid (goOn l ah false (L - st) ⟨t, a, st, u⟩ = (⟨t', a', st', u'⟩, 0)) := Lib.hid (by rw [HG.out, goOn_stop (by simp only [hPL.out]; exact .inl fun hc => hgo (.inr hc))])
          have hg3 : decide ((m' : Int) ≤ (a' : Int) + (ah : Int)) = true := by simp; have : ¬ a' + ah < m' := fun hc => hgo (.inr hc); omega
          clear hgo
          go_wp2
          refine bodyPost_ret (v := .tuple #[.agg #[.slice X' m' d', .int .i64 a', .int .i64 st'], .int .i64 0]) (by simp [results, Try.results101, go_sem, f0, f1, f2]) rfl ?_
          exact ⟨⟨X', m', d', _, _, by rw [HR.out], fun h0 => by rw [HR.out]; exact ⟨HSA.out.res, rfl, rfl⟩⟩, ext_set (ext_set (ext_set hx (by omega) _ _) (by omega) _ _) (by omega) _ _⟩
      · have HR : Hid (goOn l ah false (L - st) ⟨t, a, st, u⟩ = (⟨t', a', st', u'⟩, 0)) := Lib.hid (by rw [HG.out, goOn_end (by simp only [hPL.out]; exact fun hc => hal hc.1)])
        have hal' : decide ((a' : Int) < (m' : Int)) = false := by simp; omega
        go_wp2
        refine bodyPost_ret (v := .tuple #[.agg #[.slice X' m' d', .int .i64 a', .int .i64 st'], .int .i64 0]) (by simp [results, Try.results101, go_sem, f0, f1, f2]) rfl ?_
        exact ⟨⟨X', m', d', _, _, by rw [HR.out], fun h0 => by rw [HR.out]; exact ⟨HSA.out.res, rfl, rfl⟩⟩, ext_set (ext_set (ext_set hx (by omega) _ _) (by omega) _ _) (by omega) _ _⟩
  · go_enter Try.func101, Try.ntmps101
    go_wp2_with (go_at_call 74; refine HRc.out.mono ?_; rintro x w1 ⟨rfl, x1⟩)
    have e2 := HE1.out.trans x1
    have S1 := HS0.out.ext x1
    go_loopw [12] (fun _ wr => ∃ (X' : Option Addr) (m' d' : Nat) (t' : List Int) (a' st' u' : Nat), StAt w.heap.size (fun i => tk i ∨ w.heap.size ≤ i) wr X' m' d' t' a' st' ∧ a' ≤ m' ∧ m' ≤ 4000 ∧ st' ≤ L ∧ Hid (goOn l ah true (L - st) ⟨t, a, st, u⟩ = goOn l ah true (L - st') ⟨t', a', st', u'⟩) ∧ Ext w wr)
      (fun _ wr => L - cellN (wr.cell? ⟨w.heap.size, 2, none⟩))
    case atStart => exact ⟨X, m, d, t, a, st, u, S1, ha, hm, hst, Lib.hid rfl, e2⟩
    case round =>
      obtain ⟨X', m', d', t', a', st', u', SA, ha', hm', hs', HG, hx⟩ := hrel
      have hPL := Lib.hid SA.text.len
      have HSA := Lib.hid SA
      have f0 := SA.r0; have f1 := SA.r1; have f2 := SA.r2; have fz := SA.wr'.2; have fl := SA.wr'.1
      have g0 := SA.c0; have g1 := SA.c1; have g2 := SA.c2; have gz := SA.wr.2; have gl := SA.wr.1
      have hah := HAH.out
      have hw1 : IntKind.i64.wrap ((a' : Int) + ah) = (a' : Int) + ah := IntWalk.i64_in _ (by omega)
      clear SA S1
      by_cases hal : a' < m'
      · have hal' : decide ((a' : Int) < (m' : Int)) = true := by simpa using hal
        by_cases hgo : true = true ∨ a' + ah < m'
        · have hcond : (⟨t', a', st', u'⟩ : Play).at_ < (⟨t', a', st', u'⟩ : Play).text.length ∧ (true = true ∨ (⟨t', a', st', u'⟩ : Play).at_ + ah < (⟨t', a', st', u'⟩ : Play).text.length) := by
            simp only [hPL.out]; exact ⟨hal, .inl trivial⟩
          skip
          by_cases hsl : st' = L
          · have hq : ((st' : Int) == (L : Int)) = true := by rw [hsl]; simp
            have HR : Hid (goOn l ah true (L - st) ⟨t, a, st, u⟩ = (⟨t', a', st', u'⟩, 9)) := Lib.hid (by
              rw [HG.out, show L - st' = 0 by omega, goOn_out hcond]; rfl)
            clear hcond hsl hgo
            go_wp2
            refine bodyPost_ret (v := .tuple #[.agg #[.slice X' m' d', .int .i64 a', .int .i64 st'], .int .i64 9]) (by simp [results, Try.results101, go_sem, f0, f1, f2]) rfl ?_
            exact ⟨⟨X', m', d', _, _, by rw [HR.out], fun h0 => by rw [HR.out] at h0; cases h0⟩, ext_set (ext_set (ext_set hx (by omega) _ _) (by omega) _ _) (by omega) _ _⟩
          · have hq : ((st' : Int) == (L : Int)) = false := by simp; omega
            have hstl : st' < L := by omega
            clear hsl hgo
            have hw2 : IntKind.i64.wrap ((st' : Int) + 1) = (st' : Int) + 1 := IntWalk.i64_in _ (by omega)
            have S2 := HSA.out.setSteps (x := (st' : Int) + 1) (a' := st' + 1) (by omega)
            have y2 := ext_set hx (Nat.le_refl _) 2 (.int .i64 ((st' : Int) + 1))
            by_cases hk : first l t' a' < 0
            · have HR : Hid (goOn l ah true (L - st) ⟨t, a, st, u⟩ = goOn l ah true (L - (st' + 1)) ⟨t', a' + 1, st' + 1, u'⟩) := Lib.hid (by
                rw [HG.out, show L - st' = (L - (st' + 1)) + 1 by omega, goOn_next hcond (playStep_no hk)])
              have hk' : decide (first l t' a' < 0) = true := by simpa using hk
              have hw3 : IntKind.i64.wrap ((a' : Int) + 1) = (a' : Int) + 1 := IntWalk.i64_in _ (by omega)
              clear hk hcond
              go_wp2_with (go_at_call 35; refine (refWhich_any A n c l X' m' d' t' a' _ (h.ext y2) S2.runes hm' ha' OK.out).mono ?_; rintro x w4 ⟨rfl, x4⟩; have S4 := S2.ext x4; have j1 := S4.c1; have jz := S4.wr.2; have jl := S4.wr.1)
              have S5 := S4.setAt (x := (a' : Int) + 1) (a' := a' + 1) (by omega)
              go_roundw
              case rel => exact ⟨X', m', d', t', a' + 1, st' + 1, u', S5, by omega, hm', by omega, HR, ext_set (y2.trans x4) (Nat.le_refl _) _ _⟩
              case measure => rw [cellN_nat S5.c2, cellN_nat HSA.out.c2]; omega
            · obtain ⟨i, r, hir, hhere, hfi⟩ := first_mem (by omega : 0 ≤ first l t' a')
              have hroom := here_room hhere; rw [hPL.out] at hroom
              have hrok := OK.out r (List.mem_of_getElem? hir)
              have hok2 := hrok.ls; have hok4 := hrok.lt
              have hil : i < n := by rw [← h.len]; exact (List.getElem?_eq_some_iff.1 hir).1
              have HI := Lib.hid hir; have HFI := Lib.hid hfi; have HRO := Lib.hid hrok
              obtain ⟨bo, off, s', f', A1, n1', c1, A2, n2, c2, A3, n3, c3, A4, n4, c4, q, rfl, ⟨hbo, _⟩, hv, r0, r1', r2, r3, r4, r5, r6⟩ := h.rule HI.out
              have hl2 := hok2; rw [hv.source.len] at hl2
              have hl4 := hok4; rw [hv.target.len] at hl4
              have HN2 := Lib.hid hv.source.len
              have HN4 := Lib.hid hv.target.len
              have HQ := Lib.hid hv.cursor
              have HV := Lib.hid hv
              have hq0 := hrok.c0; have hq1 := hrok.c1
              rw [hv.cursor] at hq0 hq1; rw [hv.target.len] at hq1
              have hnb : bo ≠ w.heap.size := by omega
              rw [HN2.out] at hroom
              have hk' : decide ((i : Int) < 0) = false := by simp
              have R0 := Lib.hid r0; have R1 := Lib.hid r1'; have R2 := Lib.hid r2; have R3 := Lib.hid r3; have R4 := Lib.hid r4; have R5 := Lib.hid r5; have R6 := Lib.hid r6
              have HC := Lib.hid hcond
              clear hcond hk hir hhere hfi hrok hv hok2 hok4 r0 r1' r2 r3 r4 r5 r6
              go_wp2_with (go_at_call 35; refine (refWhich_any _ n c l X' m' d' t' a' _ (h.ext y2) S2.runes hm' ha' OK.out).mono ?_; rintro x w4 ⟨rfl, x4⟩; rw [HFI.out]; have S4 := S2.ext x4; have y4 := y2.trans x4; have j0 := S4.c0; have j1 := S4.c1; have t0 := y4.cell R0.out; have t1 := y4.cell R1.out; have t2 := y4.cell R2.out; have t3 := y4.cell R3.out; have t4 := y4.cell R4.out; have t5 := y4.cell R5.out; have t6 := y4.cell R6.out)
              go_still_tail 8, (by kernel_rfl)
              change wpList _ _ _ _ _ w4.drew
              clear t0 t1 t2 t3 t4 t5 t6 j0 j1
              have x5 := (Ext.refl w4).drew
              have S5 := S4.ext x5; have y5 := y4.trans x5
              have HPU := refPut_any s' f' A1 n1' c1 A2 n2 c2 A3 n3 c3 A4 n4 c4 q r w4.drew X' m' d' t' a' S5.runes hm' hroom hl4 (HV.out.ext (y5.agree top))
              rw [show t'.take a' ++ r.target ++ t'.drop (a' + n2) = putAt r t' a' by unfold putAt; rw [HN2.out]] at HPU
              have hplen := putAt_len (r := r) (t := t') (a := a') (by rw [HN2.out, hPL.out]; exact hroom)
              rw [hPL.out, HN2.out, HN4.out] at hplen
              obtain ⟨pl, hpl⟩ : ∃ pl, putAt r t' a' = pl := ⟨_, rfl⟩
              rw [hpl] at HPU hplen
              have HP := Lib.hid HPU
              clear HPU
              by_cases hbig : 4000 < (m' : Int) - (n2 : Int) + (n4 : Int)
              · have HR : Hid (goOn l ah true (L - st) ⟨t, a, st, u⟩ = (⟨t', a', st', u'⟩, 4)) := Lib.hid (by
                  rw [HG.out, show L - st' = (L - (st' + 1)) + 1 by omega, goOn_none (show (⟨t', a', st', u'⟩ : Play).at_ < (⟨t', a', st', u'⟩ : Play).text.length ∧ (true = true ∨ (⟨t', a', st', u'⟩ : Play).at_ + ah < (⟨t', a', st', u'⟩ : Play).text.length) from ⟨by simp only [hPL.out]; exact hal, .inl rfl⟩) (playStep_much HFI.out HI.out (by rw [hPL.out, HN2.out, HN4.out]; exact hbig))])
                have HB : decide (4000 < (pl.length : Int)) = true := by simp; omega
                clear hbig hplen
                go_wp2_with (go_at_call 29; refine HP.out.mono ?_; rintro x w6 ⟨v, rfl, o6, x6⟩; obtain ⟨AP, cP, rfl, sP⟩ := o6.sl; have S6 := S5.ext x6; have j0 := S6.c0; have j1 := S6.c1; have j2 := S6.c2; have j3 := S6.r0; have j4 := S6.r1; have j5 := S6.r2; have jz := S6.wr'.2; have jl := S6.wr'.1)
                refine bodyPost_ret (v := .tuple #[.agg #[.slice X' m' d', .int .i64 a', .int .i64 ((st' : Int) + 1)], .int .i64 4]) (by simp [results, Try.results101, go_sem, j3, j4, j5]) rfl ?_
                exact ⟨⟨X', m', d', _, _, by rw [HR.out], fun h0 => by rw [HR.out] at h0; cases h0⟩, ext_set (ext_set (ext_set (y5.trans x6) (by omega) _ _) (by omega) _ _) (by omega) _ _⟩
              · have HR : Hid (goOn l ah true (L - st) ⟨t, a, st, u⟩ = goOn l ah true (L - (st' + 1)) ⟨pl, a' + r.cursor.toNat, st' + 1, u' + 1⟩) := Lib.hid (by
                  rw [HG.out, show L - st' = (L - (st' + 1)) + 1 by omega, goOn_next (show (⟨t', a', st', u'⟩ : Play).at_ < (⟨t', a', st', u'⟩ : Play).text.length ∧ (true = true ∨ (⟨t', a', st', u'⟩ : Play).at_ + ah < (⟨t', a', st', u'⟩ : Play).text.length) from ⟨by simp only [hPL.out]; exact hal, .inl rfl⟩) (playStep_put HFI.out HI.out (by rw [hPL.out, HN2.out, HN4.out]; exact hbig)), hpl])
                have HB : decide (4000 < (pl.length : Int)) = false := by simp; omega
                go_upto_region 17 with (go_at_call 29; refine HP.out.mono ?_; rintro x w6 ⟨v, rfl, o6, x6⟩; obtain ⟨AP, cP, rfl, sP⟩ := o6.sl; have S6 := S5.ext x6; have y6 := y5.trans x6; have j0 := S6.c0; have jz := S6.wr.2; have jl := S6.wr.1)
                have hb4 : w.heap.size + 2 ≤ w4.heap.size := S4.wr'.1
                have hd4 : w4.drew.heap.size = w4.heap.size := rfl
                have S7 := S6.setText (t' := pl) (X' := AP) (m' := pl.length) (d' := cP) (sP.mono (fun _ _ h => h) (fun k hk => by have hk' : w4.drew.heap.size ≤ k := hk; exact ⟨⟨by omega, by omega⟩, .inr (by omega)⟩))
                have y7 := ext_set y6 (Nat.le_refl _) 0 (.slice AP pl.length cP)
                generalize w6.setCell ⟨w.heap.size, 0, none⟩ (.slice AP pl.length cP) = w7 at *
                have j1 := S7.c1
                have t6 := y7.cell R6.out
                have hw7 : IntKind.i64.wrap ((a' : Int) + q) = (a' : Int) + q := IntWalk.i64_in _ (by omega)
                go_still_tail 9, (by kernel_rfl)
                change wpList _ _ _ _ _ w7.drew
                have S8 := S7.ext (Ext.refl w7).drew
                have y8 := y7.drew
                have hcur : Hid (((a' : Int) + q) = ((a' + r.cursor.toNat : Nat) : Int)) := Lib.hid (by rw [HQ.out]; omega)
                have i1 := S8.c1; have iz := S8.wr.2; have il := S8.wr.1
                generalize w7.drew = w8 at *
                go_wp2
                have S9 := S8.setAt hcur.out
                go_roundw
                case rel => exact ⟨AP, pl.length, cP, pl, a' + r.cursor.toNat, st' + 1, u' + 1, S9, by rw [HQ.out]; omega, by omega, by omega, HR, ext_set y8 (Nat.le_refl _) _ _⟩
                case measure => rw [cellN_nat S9.c2, cellN_nat HSA.out.c2]; omega
        · exact absurd (.inl rfl) hgo
      · have HR : Hid (goOn l ah true (L - st) ⟨t, a, st, u⟩ = (⟨t', a', st', u'⟩, 0)) := Lib.hid (by rw [HG.out, goOn_end (by simp only [hPL.out]; exact fun hc => hal hc.1)])
        have hal' : decide ((a' : Int) < (m' : Int)) = false := by simp; omega
        go_wp2
        refine bodyPost_ret (v := .tuple #[.agg #[.slice X' m' d', .int .i64 a', .int .i64 st'], .int .i64 0]) (by simp [results, Try.results101, go_sem, f0, f1, f2]) rfl ?_
        exact ⟨⟨X', m', d', _, _, by rw [HR.out], fun h0 => by rw [HR.out]; exact ⟨HSA.out.res, rfl, rfl⟩⟩, ext_set (ext_set (ext_set hx (by omega) _ _) (by omega) _ _) (by omega) _ _⟩

theorem GoR.of {tk : Nat → Prop} {N : Nat} {l : List Rule} {ah : Nat} {fin : Bool} {L : Nat} {p q : Play} {er : Int} {w' : World} {x : Ending} (h : GoR tk N l ah fin L p w' x) (hg : goOn l ah fin (L - p.steps) p = (q, er)) :
    ∃ Y k e a' s', x = .returned (.tuple #[.agg #[.slice Y k e, .int .i64 a', .int .i64 s'], .int .i64 er]) ∧ (er = 0 → SlR rRune 1 (fun i => tk i ∨ N ≤ i) w' Y k e q.text ∧ a' = (q.at_ : Int) ∧ s' = (q.steps : Int)) := by
  unfold GoR at h
  rw [hg] at h
  exact h
end

end Go.Proofs.Ytfdkbhbnldcbmaa
