/- Walk: a player takes one step. -/
import Derived.Test.YtfdkbhbnldcbmaaW60
import Derived.Test.YtfdkbhbnldcbmaaHeld
import Derived.Deep.Cut
import Derived.Deep.CutRange
namespace Go.Proofs.Ytfdkbhbnldcbmaa
open Go.RowKit
set_option linter.unusedVariables false
set_option linter.unusedSimpArgs false

/-- what a step leaves: the player behind it, or too much -/
def StepR (b : Nat) (tk : Nat → Prop) (A : Option Addr) (n c : Nat) (l : List Rule) (t : List Int) (a td cm st ah u : Nat) (w : World) (w' : World) (e : Ending) : Prop :=
  Trn b w w' ∧ ((∃ q X m d, playStep l ⟨t, a, st, u⟩ = some q ∧ e = .returned (.int .i64 0) ∧ PlAt b (fun k => tk k ∨ w.heap.size ≤ k) w' A n c X m d q.text q.at_ td cm q.steps ah) ∨ (playStep l ⟨t, a, st, u⟩ = none ∧ e = .returned (.int .i64 4)))

section
variable {b : Nat} {tk : Nat → Prop} {w0 w : World} {A : Option Addr} {n c : Nat} {l : List Rule} {X : Option Addr} {m d : Nat} {t : List Int} {a td cm st ah : Nat} (u : Nat)
set_option maxRecDepth 100000 in
set_option maxHeartbeats 4000000 in
theorem step_any (E : Ext w0 w) (hb : w0.heap.size ≤ b) (h : Rules w0 A n c l) (hok : ∀ r ∈ l, OkRule r) (P : PlAt b tk w A n c X m d t a td cm st ah) (hm : m ≤ 4000) (ha : a < m) (hst : st ≤ 60000) :
    Calls Try.prog 143 #[.pointer (some ⟨b, 0, none⟩)] w fun e w' => StepR b tk A n c l t a td cm st ah u w w' e := by
  have OK := Lib.hid hok; clear hok
  have h0 := P.c0; have h1 := P.c1; have h2 := P.c2; have h5 := P.c5; have hz := P.wr.2; have hbs := P.wr.1
  have P1 := P.setSteps (x := (st : Int) + 1) (a' := st + 1) (by omega)
  have T1 := (Trn.refl b w).set 5 (.int .i64 ((st : Int) + 1))
  have hPL := Lib.hid P.text.len
  have hw5 : IntKind.i64.wrap ((st : Int) + 1) = (st : Int) + 1 := IntWalk.i64_in _ (by omega)
  go_enter Try.func143, Try.ntmps143
  go_upto_region 2 with fail
  generalize hW1 : w.setCell ⟨b, 5, none⟩ (.int .i64 ((st : Int) + 1)) = w1 at *
  clear hW1 h0 h1 h2 h5 hz hw5
  have E1 := T1.run E hb
  have q0 := P1.c0; have q1 := P1.c1; have q2 := P1.c2; have qz := P1.wr.2
  have HF := Lib.hid (fun W (e : Ext w1 W) => First_any A n c l X m d t a W (h.ext (E1.trans e)) (P1.ext e).runes hm (by omega) OK.out)
  by_cases hk : first l t a < 0
  · have HST : Hid (playStep l ⟨t, a, st, u⟩ = some ⟨t, a + 1, st + 1, u⟩) := Lib.hid (playStep_no hk)
    have hk' : decide (first l t a < 0) = true := by simpa using hk
    have hw2 : IntKind.i64.wrap ((a : Int) + 1) = (a : Int) + 1 := IntWalk.i64_in _ (by omega)
    clear hk
    go_still_tail 13, (by kernel_rfl)
    change wpList _ _ _ _ _ w1.drew
    go_wp2_with (go_at_call 90; refine (HF.out _ (Ext.refl w1).drew).mono ?_; rintro e w2 ⟨rfl, x2⟩; have x12 := (Ext.refl w1).drew.trans x2; have P2 := P1.ext x12; have T2 := T1.ext x12; have k2 := P2.c2; have kz := P2.wr.2; have kl := P2.wr.1)
    go_ret
    exact ⟨T2.set _ _, .inl ⟨_, X, m, d, HST.out, rfl, (P2.setAt (by simp only; omega)).mono fun _ h => .inl h⟩⟩
  · obtain ⟨i, r, hir, hhere, hfi⟩ := first_mem (by omega : 0 ≤ first l t a)
    have hroom := here_room hhere; rw [hPL.out] at hroom
    have hrok := OK.out r (List.mem_of_getElem? hir)
    have hok2 := hrok.ls; have hok4 := hrok.lt
    have hil : i < n := by rw [← h.len]; exact (List.getElem?_eq_some_iff.1 hir).1
    have HI := Lib.hid hir; have HFI := Lib.hid hfi; have HRO := Lib.hid hrok
    obtain ⟨bo, off, s', f', A1, n1', c1, A2, n2, c2, A3, n3, c3, A4, n4, c4, q, rfl, ⟨hbo, _⟩, hv, r0, r1, r2, r3, r4, r5, r6⟩ := h.rule HI.out
    have hl2 := hok2; rw [hv.source.len] at hl2
    have hl4 := hok4; rw [hv.target.len] at hl4
    have HN2 := Lib.hid hv.source.len
    have HN4 := Lib.hid hv.target.len
    have HQ := Lib.hid hv.cursor
    have HV := Lib.hid hv
    have hnb : bo ≠ b := by omega
    have hnb' := hnb.symm
    rw [HN2.out] at hroom
    have R3 := Lib.hid r3; have R5 := Lib.hid r5; have R6 := Lib.hid r6
    have hk' : decide ((i : Int) < 0) = false := by simp
    clear hk hir hhere hfi hrok hv r0 r1 r2 r3 r4 r5 r6 hok2 hok4
    go_still_tail 13, (by kernel_rfl)
    change wpList _ _ _ _ _ w1.drew
    go_wp2_with (go_at_call 90; refine (HF.out _ (Ext.refl w1).drew).mono ?_; rintro e w2 ⟨rfl, x2⟩; rw [HFI.out]; have x12 := (Ext.refl w1).drew.trans x2; have P2 := P1.ext x12; have T2 := T1.ext x12; have E2 := E1.trans x12; have k0 := P2.c0; have k1 := P2.c1; have k2 := P2.c2; have kz := P2.wr.2; have kl := P2.wr.1; have t3 := E2.cell R3.out; have t5 := E2.cell R5.out; have t6 := E2.cell R6.out)
    have hil2 : i < n := hil
    have R6' := Lib.hid t6
    have hs1 := fun W => run_cut_h T_rune X m d (a : Int) a rfl (by have := P2.text.cap; omega) W
    have hs2 := fun W => run_cut_l T_rune X m d ((a : Int) + (n2 : Int)) (a + n2) (by omega) (by omega) W
    have hw : IntKind.i64.wrap ((a : Int) + n2) = (a : Int) + n2 := IntWalk.i64_in _ (by omega)
    by_cases hbig : 4000 < (m : Int) - (n2 : Int) + (n4 : Int)
    · have HST : Hid (playStep l ⟨t, a, st, u⟩ = none) := Lib.hid (playStep_much HFI.out HI.out (by rw [hPL.out, HN2.out, HN4.out]; exact hbig))
      have HB : decide (4000 < (m : Int) - (n2 : Int) + (n4 : Int)) = true := by simpa using hbig
      clear hbig hroom
      go_quiet (fail)
      go_wp2
      go_ret
      exact ⟨T2.ext ((Ext.refl w2).drewN _), .inr ⟨HST.out, rfl⟩⟩
    · have HST : Hid (playStep l ⟨t, a, st, u⟩ = some ⟨putAt r t a, a + r.cursor.toNat, st + 1, u + 1⟩) := Lib.hid (playStep_put HFI.out HI.out (by rw [hPL.out, HN2.out, HN4.out]; exact hbig))
      have HB : decide (4000 < (m : Int) - (n2 : Int) + (n4 : Int)) = false := by simpa using hbig
      have HBG := Lib.hid hbig
      have HRM := Lib.hid hroom
      clear hbig hroom
      go_quiet (fail)
      go_wp2
      have X3 := (Ext.refl w2).drewN nq
      generalize w2.drewN nq = w3 at *
      have P3 := P2.ext X3; have T3 := T2.ext X3; have E3 := E2.trans X3
      have q0 := P3.c0; have q1 := P3.c1; have q2 := P3.c2
      have t3 := E3.cell R3.out; have t5 := E3.cell R5.out
      have X4 := (Ext.refl w3).drew
      have d1 := X4.cell q1; have d2 := X4.cell q2; have d3 := X4.cell t3; have d5 := X4.cell t5
      refine wp_region_E (fun w' => w'.cell? ⟨b, 1, none⟩ = some (.slice X m d) ∧ w'.cell? ⟨b, 2, none⟩ = some (.int .i64 a) ∧ w'.cell? ⟨bo, off + i * 7 + 3, none⟩ = some (.slice A2 n2 c2) ∧ w'.cell? ⟨bo, off + i * 7 + 5, none⟩ = some (.slice A4 n4 c4)) 33 (by kernel_rfl) ?_
      have hS : (fun w' : World => w'.cell? ⟨b, 1, none⟩ = some (.slice X m d) ∧ w'.cell? ⟨b, 2, none⟩ = some (.int .i64 a) ∧ w'.cell? ⟨bo, off + i * 7 + 3, none⟩ = some (.slice A2 n2 c2) ∧ w'.cell? ⟨bo, off + i * 7 + 5, none⟩ = some (.slice A4 n4 c4)) w3.drew := ⟨d1, d2, d3, d5⟩
      refine wpE_take [32, 31] (i := 0) (v := ?v0) rfl (by kernel_rfl) (by kernel_rfl) (by kernel_rfl) (by kernel_rfl) (by kernel_rfl) (fun _ _ _ h => h) hS (Or.inl ⟨by rfl, ?hy0⟩) ?rest0
      case hy0 =>
        intro w' hSw
        try dsimp only at hSw
        go_simp
        with_reducible rfl
      simp only [Act.put, List.getElem_toArray, List.getElem_cons_zero, List.getElem_cons_succ, List.setIfInBounds_toArray, List.set_cons_zero, List.set_cons_succ]
      refine wpE_take [30, 29, 9, 4, 3, 2] (i := 1) (v := ?v1) rfl (by kernel_rfl) (by kernel_rfl) (by kernel_rfl) (by kernel_rfl) (by kernel_rfl) (fun _ _ _ h => h) hS (Or.inl ⟨by rfl, ?hy1⟩) ?rest1
      case hy1 =>
        intro w' hSw
        try dsimp only at hSw
        go_simp
        with_reducible rfl
      simp only [Act.put, List.getElem_toArray, List.getElem_cons_zero, List.getElem_cons_succ, List.setIfInBounds_toArray, List.set_cons_zero, List.set_cons_succ]
      refine wpE_take [30, 29, 9, 4, 3] (i := 2) (v := ?v2) rfl (by kernel_rfl) (by kernel_rfl) (by kernel_rfl) (by kernel_rfl) (by kernel_rfl) (fun _ _ _ h => h) hS (Or.inl ⟨by rfl, ?hy2⟩) ?rest2
      case hy2 =>
        intro w' hSw
        try dsimp only at hSw
        go_simp
        with_reducible rfl
      simp only [Act.put, List.getElem_toArray, List.getElem_cons_zero, List.getElem_cons_succ, List.setIfInBounds_toArray, List.set_cons_zero, List.set_cons_succ]
      refine wpE_take [30, 29, 9, 4] (i := 3) (v := ?v3) rfl (by kernel_rfl) (by kernel_rfl) (by kernel_rfl) (by kernel_rfl) (by kernel_rfl) (fun _ _ _ h => h) hS (Or.inl ⟨by rfl, ?hy3⟩) ?rest3
      case hy3 =>
        intro w' hSw
        try dsimp only at hSw
        go_simp
        with_reducible rfl
      simp only [Act.put, List.getElem_toArray, List.getElem_cons_zero, List.getElem_cons_succ, List.setIfInBounds_toArray, List.set_cons_zero, List.set_cons_succ]
      refine wpE_take [30, 29, 9] (i := 4) (v := ?v4) rfl (by kernel_rfl) (by kernel_rfl) (by kernel_rfl) (by kernel_rfl) (by kernel_rfl) (fun _ _ _ h => h) hS (Or.inl ⟨by rfl, ?hy4⟩) ?rest4
      case hy4 =>
        intro w' hSw
        try dsimp only at hSw
        go_simp
        with_reducible rfl
      simp only [Act.put, List.getElem_toArray, List.getElem_cons_zero, List.getElem_cons_succ, List.setIfInBounds_toArray, List.set_cons_zero, List.set_cons_succ]
      refine wpE_take [30, 29, 9, 8, 7, 6] (i := 5) (v := ?v5) rfl (by kernel_rfl) (by kernel_rfl) (by kernel_rfl) (by kernel_rfl) (by kernel_rfl) (fun _ _ _ h => h) hS (Or.inl ⟨by rfl, ?hy5⟩) ?rest5
      case hy5 =>
        intro w' hSw
        try dsimp only at hSw
        go_simp
        with_reducible rfl
      simp only [Act.put, List.getElem_toArray, List.getElem_cons_zero, List.getElem_cons_succ, List.setIfInBounds_toArray, List.set_cons_zero, List.set_cons_succ]
      refine wpE_take [30, 29, 9, 8, 7] (i := 6) (v := ?v6) rfl (by kernel_rfl) (by kernel_rfl) (by kernel_rfl) (by kernel_rfl) (by kernel_rfl) (fun _ _ _ h => h) hS (Or.inl ⟨by rfl, ?hy6⟩) ?rest6
      case hy6 =>
        intro w' hSw
        try dsimp only at hSw
        go_simp
        with_reducible rfl
      simp only [Act.put, List.getElem_toArray, List.getElem_cons_zero, List.getElem_cons_succ, List.setIfInBounds_toArray, List.set_cons_zero, List.set_cons_succ]
      refine wpE_take [30, 29, 9, 8] (i := 7) (v := ?v7) rfl (by kernel_rfl) (by kernel_rfl) (by kernel_rfl) (by kernel_rfl) (by kernel_rfl) (fun _ _ _ h => h) hS (Or.inl ⟨by rfl, ?hy7⟩) ?rest7
      case hy7 =>
        intro w' hSw
        try dsimp only at hSw
        go_simp
        with_reducible rfl
      simp only [Act.put, List.getElem_toArray, List.getElem_cons_zero, List.getElem_cons_succ, List.setIfInBounds_toArray, List.set_cons_zero, List.set_cons_succ]
      refine wpE_take [30, 29, 9] (i := 8) (v := ?v8) rfl (by kernel_rfl) (by kernel_rfl) (by kernel_rfl) (by kernel_rfl) (by kernel_rfl) (fun _ _ _ h => h) hS (Or.inl ⟨by rfl, ?hy8⟩) ?rest8
      case hy8 =>
        intro w' hSw
        try dsimp only at hSw
        go_simp
        with_reducible rfl
      simp only [Act.put, List.getElem_toArray, List.getElem_cons_zero, List.getElem_cons_succ, List.setIfInBounds_toArray, List.set_cons_zero, List.set_cons_succ]
      refine wpE_take [30, 29] (i := 9) (v := ?v9) rfl (by kernel_rfl) (by kernel_rfl) (by kernel_rfl) (by kernel_rfl) (by kernel_rfl) (fun _ _ _ h => h) hS (Or.inl ⟨by rfl, ?hy9⟩) ?rest9
      case hy9 =>
        intro w' hSw
        try dsimp only at hSw
        go_simp
        with_reducible rfl
      simp only [Act.put, List.getElem_toArray, List.getElem_cons_zero, List.getElem_cons_succ, List.setIfInBounds_toArray, List.set_cons_zero, List.set_cons_succ]
      refine wpE_take [30, 29, 13, 12, 11] (i := 10) (v := ?v10) rfl (by kernel_rfl) (by kernel_rfl) (by kernel_rfl) (by kernel_rfl) (by kernel_rfl) (fun _ _ _ h => h) hS (Or.inl ⟨by rfl, ?hy10⟩) ?rest10
      case hy10 =>
        intro w' hSw
        try dsimp only at hSw
        go_simp
        with_reducible rfl
      simp only [Act.put, List.getElem_toArray, List.getElem_cons_zero, List.getElem_cons_succ, List.setIfInBounds_toArray, List.set_cons_zero, List.set_cons_succ]
      refine wpE_take [30, 29, 13, 12] (i := 11) (v := ?v11) rfl (by kernel_rfl) (by kernel_rfl) (by kernel_rfl) (by kernel_rfl) (by kernel_rfl) (fun _ _ _ h => h) hS (Or.inl ⟨by rfl, ?hy11⟩) ?rest11
      case hy11 =>
        intro w' hSw
        try dsimp only at hSw
        go_simp
        with_reducible rfl
      simp only [Act.put, List.getElem_toArray, List.getElem_cons_zero, List.getElem_cons_succ, List.setIfInBounds_toArray, List.set_cons_zero, List.set_cons_succ]
      refine wpE_take [30, 29, 13] (i := 12) (v := ?v12) rfl (by kernel_rfl) (by kernel_rfl) (by kernel_rfl) (by kernel_rfl) (by kernel_rfl) (fun _ _ _ h => h) hS (Or.inl ⟨by rfl, ?hy12⟩) ?rest12
      case hy12 =>
        intro w' hSw
        try dsimp only at hSw
        go_simp
        with_reducible rfl
      simp only [Act.put, List.getElem_toArray, List.getElem_cons_zero, List.getElem_cons_succ, List.setIfInBounds_toArray, List.set_cons_zero, List.set_cons_succ]
      refine wpE_take [30, 29] (i := 13) (v := ?v13) rfl (by kernel_rfl) (by kernel_rfl) (by kernel_rfl) (by kernel_rfl) (by kernel_rfl) (fun _ _ _ h => h) hS (Or.inl ⟨by rfl, ?hy13⟩) ?rest13
      case hy13 =>
        intro w' hSw
        try dsimp only at hSw
        go_simp
        with_reducible rfl
      simp only [Act.put, List.getElem_toArray, List.getElem_cons_zero, List.getElem_cons_succ, List.setIfInBounds_toArray, List.set_cons_zero, List.set_cons_succ]
      refine wpE_take [30, 29, 28, 17, 16, 15] (i := 14) (v := ?v14) rfl (by kernel_rfl) (by kernel_rfl) (by kernel_rfl) (by kernel_rfl) (by kernel_rfl) (fun _ _ _ h => h) hS (Or.inl ⟨by rfl, ?hy14⟩) ?rest14
      case hy14 =>
        intro w' hSw
        try dsimp only at hSw
        go_simp
        with_reducible rfl
      simp only [Act.put, List.getElem_toArray, List.getElem_cons_zero, List.getElem_cons_succ, List.setIfInBounds_toArray, List.set_cons_zero, List.set_cons_succ]
      refine wpE_take [30, 29, 28, 17, 16] (i := 15) (v := ?v15) rfl (by kernel_rfl) (by kernel_rfl) (by kernel_rfl) (by kernel_rfl) (by kernel_rfl) (fun _ _ _ h => h) hS (Or.inl ⟨by rfl, ?hy15⟩) ?rest15
      case hy15 =>
        intro w' hSw
        try dsimp only at hSw
        go_simp
        with_reducible rfl
      simp only [Act.put, List.getElem_toArray, List.getElem_cons_zero, List.getElem_cons_succ, List.setIfInBounds_toArray, List.set_cons_zero, List.set_cons_succ]
      refine wpE_take [30, 29, 28, 17] (i := 16) (v := ?v16) rfl (by kernel_rfl) (by kernel_rfl) (by kernel_rfl) (by kernel_rfl) (by kernel_rfl) (fun _ _ _ h => h) hS (Or.inl ⟨by rfl, ?hy16⟩) ?rest16
      case hy16 =>
        intro w' hSw
        try dsimp only at hSw
        go_simp
        with_reducible rfl
      simp only [Act.put, List.getElem_toArray, List.getElem_cons_zero, List.getElem_cons_succ, List.setIfInBounds_toArray, List.set_cons_zero, List.set_cons_succ]
      refine wpE_take [30, 29, 28] (i := 17) (v := ?v17) rfl (by kernel_rfl) (by kernel_rfl) (by kernel_rfl) (by kernel_rfl) (by kernel_rfl) (fun _ _ _ h => h) hS (Or.inl ⟨by rfl, ?hy17⟩) ?rest17
      case hy17 =>
        intro w' hSw
        try dsimp only at hSw
        go_simp
        with_reducible rfl
      simp only [Act.put, List.getElem_toArray, List.getElem_cons_zero, List.getElem_cons_succ, List.setIfInBounds_toArray, List.set_cons_zero, List.set_cons_succ]
      refine wpE_take [30, 29, 28, 27, 21, 20, 19] (i := 18) (v := ?v18) rfl (by kernel_rfl) (by kernel_rfl) (by kernel_rfl) (by kernel_rfl) (by kernel_rfl) (fun _ _ _ h => h) hS (Or.inl ⟨by rfl, ?hy18⟩) ?rest18
      case hy18 =>
        intro w' hSw
        try dsimp only at hSw
        go_simp
        with_reducible rfl
      simp only [Act.put, List.getElem_toArray, List.getElem_cons_zero, List.getElem_cons_succ, List.setIfInBounds_toArray, List.set_cons_zero, List.set_cons_succ]
      refine wpE_take [30, 29, 28, 27, 21, 20] (i := 19) (v := ?v19) rfl (by kernel_rfl) (by kernel_rfl) (by kernel_rfl) (by kernel_rfl) (by kernel_rfl) (fun _ _ _ h => h) hS (Or.inl ⟨by rfl, ?hy19⟩) ?rest19
      case hy19 =>
        intro w' hSw
        try dsimp only at hSw
        go_simp
        with_reducible rfl
      simp only [Act.put, List.getElem_toArray, List.getElem_cons_zero, List.getElem_cons_succ, List.setIfInBounds_toArray, List.set_cons_zero, List.set_cons_succ]
      refine wpE_take [30, 29, 28, 27, 21] (i := 20) (v := ?v20) rfl (by kernel_rfl) (by kernel_rfl) (by kernel_rfl) (by kernel_rfl) (by kernel_rfl) (fun _ _ _ h => h) hS (Or.inl ⟨by rfl, ?hy20⟩) ?rest20
      case hy20 =>
        intro w' hSw
        try dsimp only at hSw
        go_simp
        with_reducible rfl
      simp only [Act.put, List.getElem_toArray, List.getElem_cons_zero, List.getElem_cons_succ, List.setIfInBounds_toArray, List.set_cons_zero, List.set_cons_succ]
      refine wpE_take [30, 29, 28, 27] (i := 21) (v := ?v21) rfl (by kernel_rfl) (by kernel_rfl) (by kernel_rfl) (by kernel_rfl) (by kernel_rfl) (fun _ _ _ h => h) hS (Or.inl ⟨by rfl, ?hy21⟩) ?rest21
      case hy21 =>
        intro w' hSw
        try dsimp only at hSw
        go_simp
        with_reducible rfl
      simp only [Act.put, List.getElem_toArray, List.getElem_cons_zero, List.getElem_cons_succ, List.setIfInBounds_toArray, List.set_cons_zero, List.set_cons_succ]
      refine wpE_take [30, 29, 28, 27, 26, 25, 24, 23] (i := 22) (v := ?v22) rfl (by kernel_rfl) (by kernel_rfl) (by kernel_rfl) (by kernel_rfl) (by kernel_rfl) (fun _ _ _ h => h) hS (Or.inl ⟨by rfl, ?hy22⟩) ?rest22
      case hy22 =>
        intro w' hSw
        try dsimp only at hSw
        go_simp
        with_reducible rfl
      simp only [Act.put, List.getElem_toArray, List.getElem_cons_zero, List.getElem_cons_succ, List.setIfInBounds_toArray, List.set_cons_zero, List.set_cons_succ]
      refine wpE_take [30, 29, 28, 27, 26, 25, 24] (i := 23) (v := ?v23) rfl (by kernel_rfl) (by kernel_rfl) (by kernel_rfl) (by kernel_rfl) (by kernel_rfl) (fun _ _ _ h => h) hS (Or.inl ⟨by rfl, ?hy23⟩) ?rest23
      case hy23 =>
        intro w' hSw
        try dsimp only at hSw
        go_simp
        with_reducible rfl
      simp only [Act.put, List.getElem_toArray, List.getElem_cons_zero, List.getElem_cons_succ, List.setIfInBounds_toArray, List.set_cons_zero, List.set_cons_succ]
      refine wpE_take [30, 29, 28, 27, 26, 25] (i := 24) (v := ?v24) rfl (by kernel_rfl) (by kernel_rfl) (by kernel_rfl) (by kernel_rfl) (by kernel_rfl) (fun _ _ _ h => h) hS (Or.inl ⟨by rfl, ?hy24⟩) ?rest24
      case hy24 =>
        intro w' hSw
        try dsimp only at hSw
        go_simp
        with_reducible rfl
      simp only [Act.put, List.getElem_toArray, List.getElem_cons_zero, List.getElem_cons_succ, List.setIfInBounds_toArray, List.set_cons_zero, List.set_cons_succ]
      refine wpE_take [30, 29, 28, 27, 26] (i := 25) (v := ?v25) rfl (by kernel_rfl) (by kernel_rfl) (by kernel_rfl) (by kernel_rfl) (by kernel_rfl) (fun _ _ _ h => h) hS (Or.inl ⟨by rfl, ?hy25⟩) ?rest25
      case hy25 =>
        intro w' hSw
        try dsimp only at hSw
        go_simp
        with_reducible rfl
      simp only [Act.put, List.getElem_toArray, List.getElem_cons_zero, List.getElem_cons_succ, List.setIfInBounds_toArray, List.set_cons_zero, List.set_cons_succ]
      refine wpE_take [30, 29, 28, 27] (i := 26) (v := ?v26) rfl (by kernel_rfl) (by kernel_rfl) (by kernel_rfl) (by kernel_rfl) (by kernel_rfl) (fun _ _ _ h => h) hS (Or.inl ⟨by rfl, ?hy26⟩) ?rest26
      case hy26 =>
        intro w' hSw
        try dsimp only at hSw
        go_simp
        with_reducible rfl
      simp only [Act.put, List.getElem_toArray, List.getElem_cons_zero, List.getElem_cons_succ, List.setIfInBounds_toArray, List.set_cons_zero, List.set_cons_succ]
      refine wpE_take [30, 29, 28] (i := 27) (v := ?v27) rfl (by kernel_rfl) (by kernel_rfl) (by kernel_rfl) (by kernel_rfl) (by kernel_rfl) (fun _ _ _ h => h) hS (Or.inl ⟨by rfl, ?hy27⟩) ?rest27
      case hy27 =>
        intro w' hSw
        try dsimp only at hSw
        go_simp
        with_reducible rfl
      simp only [Act.put, List.getElem_toArray, List.getElem_cons_zero, List.getElem_cons_succ, List.setIfInBounds_toArray, List.set_cons_zero, List.set_cons_succ]
      refine wpE_take [30, 29] (i := 28) (v := ?v28) rfl (by kernel_rfl) (by kernel_rfl) (by kernel_rfl) (by kernel_rfl) (by kernel_rfl) (fun _ _ _ h => h) hS (Or.inl ⟨by rfl, ?hy28⟩) ?rest28
      case hy28 =>
        intro w' hSw
        try dsimp only at hSw
        go_simp
        with_reducible rfl
      simp only [Act.put, List.getElem_toArray, List.getElem_cons_zero, List.getElem_cons_succ, List.setIfInBounds_toArray, List.set_cons_zero, List.set_cons_succ]
      have XA := X4.alloc (.cells #[.slice X a d, .slice A4 n4 c4, .slice (cutA X d (a + n2) 1) (m - (a + n2)) (d - (a + n2))] 23)
      refine wpE_one (i := 29) rfl (by kernel_rfl) (fun K1 hK1 => ?_)
      go_simp
      refine hK1.out _ _ (.inr ⟨XA.cell q1, XA.cell q2, XA.cell t3, XA.cell t5⟩) ?_
      try simp only [Act.put, List.getElem_toArray, List.getElem_cons_zero, List.getElem_cons_succ, List.setIfInBounds_toArray, List.set_cons_zero, List.set_cons_succ]
      have P4 := P3.ext X4; have T4 := T3.ext X4; have E4 := E3.trans X4
      have hV4 := HV.out.ext (E4.agree top)
      have hfl : [t.take a, r.target, t.drop (a + n2)].flatten = putAt r t a := by unfold putAt; rw [HN2.out]; simp
      have hplen := putAt_len (r := r) (t := t) (a := a) (by rw [HN2.out, hPL.out]; exact HRM.out)
      rw [hPL.out, HN2.out, HN4.out] at hplen
      have hro := HRM.out
      have hT := pieces_new X A4 (cutA X d (a + n2) 1) a d n4 c4 (m - (a + n2)) (d - (a + n2)) (t.take a) r.target (t.drop (a + n2)) 23 (P4.runes.take (by omega)) hV4.target (P4.runes.drop (by omega))
      have hbg := HBG.out
      have HC := Lib.hid (Concat_rune one_rune (keep_rune bot) _ 3 3 _ _ hT (by rw [hfl]; omega) (fun _ _ h => h))
      rw [hfl] at HC
      clear hT hfl
      have hq0 := HRO.out.c0; have hq1 := HRO.out.c1
      rw [HQ.out] at hq0 hq1; rw [HN4.out] at hq1
      have hb4 := P4.wr.1
      refine wpE_one (i := 30) rfl (by kernel_rfl) (fun K2 hK2 => ?_)
      go_simp
      go_at_call 89
      refine HC.out.mono ?_
      rintro e w9 ⟨v, rfl, ov, ex9⟩
      obtain ⟨AX, cX, rfl, sX⟩ := ov.sl
      have EB := ((Ext.refl w3.drew).alloc (.cells #[.slice X a d, .slice A4 n4 c4, .slice (cutA X d (a + n2) 1) (m - (a + n2)) (d - (a + n2))] 23)).trans ex9
      have P6 := P4.ext EB; have T6 := T4.ext EB; have E6 := E4.trans EB
      have g1 := P6.c1; have g2 := P6.c2; have gz := P6.wr.2; have gl := P6.wr.1
      have g3 := E6.cell R3.out; have g5 := E6.cell R5.out
      dsimp only
      refine hK2.out _ _ (.inr ⟨g1, g2, g3, g5⟩) ?_
      try simp only [Act.put, List.getElem_toArray, List.getElem_cons_zero, List.getElem_cons_succ, List.setIfInBounds_toArray, List.set_cons_zero, List.set_cons_succ]
      have hS2 : (fun w' : World => w'.cell? ⟨b, 1, none⟩ = some (.slice X m d) ∧ w'.cell? ⟨b, 2, none⟩ = some (.int .i64 a) ∧ w'.cell? ⟨bo, off + i * 7 + 3, none⟩ = some (.slice A2 n2 c2) ∧ w'.cell? ⟨bo, off + i * 7 + 5, none⟩ = some (.slice A4 n4 c4)) w9 := ⟨g1, g2, g3, g5⟩
      refine wpE_take [32] (i := 31) (v := ?v31) rfl (by kernel_rfl) (by kernel_rfl) (by kernel_rfl) (by kernel_rfl) (by kernel_rfl) (fun _ _ _ h => h) hS2 (Or.inl ⟨by rfl, ?hy31⟩) ?rest31
      case hy31 =>
        intro w' hSw
        try dsimp only at hSw
        go_simp
        with_reducible rfl
      simp only [Act.put, List.getElem_toArray, List.getElem_cons_zero, List.getElem_cons_succ, List.setIfInBounds_toArray, List.set_cons_zero, List.set_cons_succ]
      refine wpE_take [] (i := 32) (v := ?v32) rfl (by kernel_rfl) (by kernel_rfl) (by kernel_rfl) (by kernel_rfl) (by kernel_rfl) (fun _ _ _ h => h) hS2 (Or.inl ⟨by rfl, ?hy32⟩) ?rest32
      case hy32 =>
        intro w' hSw
        try dsimp only at hSw
        go_simp
        with_reducible rfl
      simp only [Act.put, List.getElem_toArray, List.getElem_cons_zero, List.getElem_cons_succ, List.setIfInBounds_toArray, List.set_cons_zero, List.set_cons_succ]
      refine wpE_one (i := 33) rfl (by kernel_rfl) (fun K3 hK3 => ?_)
      go_simp
      refine hK3.out _ _ (.inl rfl) ?_
      refine wpE_done (by kernel_rfl) ?_ _
      try simp only [Act.put, List.getElem_toArray, List.getElem_cons_zero, List.getElem_cons_succ, List.setIfInBounds_toArray, List.set_cons_zero, List.set_cons_succ]
      have hb5 : b < w3.heap.size := P3.wr.1
      have hsz3 : w.heap.size ≤ w3.heap.size := (show w.grownBy w3 (some b) from T3).size
      have sX' : SlR rRune 1 (fun k => k ≠ b ∧ (tk k ∨ w.heap.size ≤ k)) w9 AX (putAt r t a).length cX (putAt r t a) := sX.mono (fun _ _ h => h) (fun k hk => by simp at hk; exact ⟨by omega, .inr (by omega)⟩)
      have P7 := P6.setText (tk' := fun k => tk k ∨ w.heap.size ≤ k) sX'
      have T7 := T6.set 1 (.slice AX (putAt r t a).length cX)
      have E7 := ext_set E6 hb 1 (.slice AX (putAt r t a).length cX)
      have hcur : Hid (((a : Int) + q) = ((a + r.cursor.toNat : Nat) : Int)) := Lib.hid (by rw [HQ.out]; omega)
      have hw7 : IntKind.i64.wrap ((a : Int) + q) = (a : Int) + q := IntWalk.i64_in _ (by omega)
      generalize w9.setCell ⟨b, 1, none⟩ (.slice AX (putAt r t a).length cX) = w10 at *
      clear g1 g2 g3 g5 gz gl hS hS2 d1 d2 d3 d5 q0 q1 q2 t3 t5 XA hs1 hs2 hw
      have g2 := P7.c2; have gz := P7.wr.2; have gl := P7.wr.1
      have g6 := E7.cell R6.out
      go_wp2
      go_still_tail 11, (by kernel_rfl)
      change wpList _ _ _ _ _ w10.drew
      have T8 := T7.ext (Ext.refl w10).drew
      have P8 := P7.ext (Ext.refl w10).drew
      have e2 := P8.c2; have ez := P8.wr.2; have el := P8.wr.1
      go_wp2
      go_ret
      exact ⟨T8.set _ _, .inl ⟨_, AX, _, cX, HST.out, rfl, P8.setAt hcur.out⟩⟩
end

end Go.Proofs.Ytfdkbhbnldcbmaa
