/- Walk: the document's Rows. -/
import Derived.Test.YtbcmfebfcoedkaaZ31
import Derived.Test.YtbcmfebfcoedkaaHeld
namespace Go.Proofs.Ytbcmfebfcoedkaa
open Go.RowKit
set_option linter.unusedVariables false
set_option linter.unusedSimpArgs false

/-- the variable of three rows -/
structure CellB (B : Nat) (w : World) (a b c : Value) : Prop where
  c0 : w.cell? ⟨B, 0, none⟩ = some a
  c1 : w.cell? ⟨B, 1, none⟩ = some b
  c2 : w.cell? ⟨B, 2, none⟩ = some c
  fz : ∀ i, w.frozen? ⟨B, i, none⟩ = false
  lt : B < w.heap.size ∧ B ≠ w.heap.size
section
variable {B : Nat} {w w' : World} {a b c : Value}
theorem CellB.ext (h : CellB B w a b c) (e : Ext w w') : CellB B w' a b c :=
  ⟨e.cell h.c0, e.cell h.c1, e.cell h.c2, fun i => (e.frozen (a := ⟨B, i, none⟩) h.lt.1).trans (h.fz i), by have := e.size; have := h.lt; omega⟩
theorem CellB.grown (h : CellB B w a b c) {r : Option Nat} (g : w.grownBy w' r) (hr : r ≠ some B) : CellB B w' a b c :=
  ⟨grown_cell g h.c0 hr, grown_cell g h.c1 hr, grown_cell g h.c2 hr, fun i => (frozen_agree (g.block B h.lt.1 (fun e => hr e.symm))).trans (h.fz i), by have := g.size; have := h.lt; omega⟩
theorem set_same' {w : World} {B o : Nat} {v u : Value} (h : w.cell? ⟨B, o, none⟩ = some u) : (w.setCell ⟨B, o, none⟩ v).cell? ⟨B, o, none⟩ = some v := World.cell?_setCell_same _ _ _ h
theorem set_other' {w : World} {B o o' : Nat} {v u : Value} (h : w.cell? ⟨B, o', none⟩ = some u) (hne : o ≠ o') : (w.setCell ⟨B, o, none⟩ v).cell? ⟨B, o', none⟩ = some u :=
  (World.cell?_setCell_other _ _ _ _ (by intro e; simp only [Addr.mk.injEq] at e; omega)).trans h
theorem CellB.set0 (h : CellB B w a b c) (v : Value) : CellB B (w.setCell ⟨B, 0, none⟩ v) v b c :=
  ⟨set_same' h.c0, set_other' h.c1 (by omega), set_other' h.c2 (by omega), fun i => by rw [World.frozen?_setCell]; exact h.fz i, by simpa [World.setCell] using h.lt⟩
theorem CellB.set1 (h : CellB B w a b c) (v : Value) : CellB B (w.setCell ⟨B, 1, none⟩ v) a v c :=
  ⟨set_other' h.c0 (by omega), set_same' h.c1, set_other' h.c2 (by omega), fun i => by rw [World.frozen?_setCell]; exact h.fz i, by simpa [World.setCell] using h.lt⟩
theorem CellB.set2 (h : CellB B w a b c) (v : Value) : CellB B (w.setCell ⟨B, 2, none⟩ v) a b v :=
  ⟨set_other' h.c0 (by omega), set_other' h.c1 (by omega), set_same' h.c2, fun i => by rw [World.frozen?_setCell]; exact h.fz i, by simpa [World.setCell] using h.lt⟩
theorem heap_setB {w : World} {B o g : Nat} {v : Value} (h : g ≠ B) : (w.setCell ⟨B, o, none⟩ v).heap[g]? = w.heap[g]? := by
  rw [Go.Sort.setCell_eq]
  simp only [Go.Sort.mapBlock, Array.getElem?_modify]
  rw [if_neg (Ne.symm h)]
theorem Own3.setB {base : Nat} {la lb lc : List Int} (h : Own3 base w a b c la lb lc) (hB : B < base) (o : Nat) (v : Value) : Own3 base (w.setCell ⟨B, o, none⟩ v) a b c la lb lc :=
  have f : ∀ (u : Value) (l : List Int), OwnR rInt 3 1 base w u l → OwnR rInt 3 1 base (w.setCell ⟨B, o, none⟩ v) u l := fun u l hu =>
    hu.keep (ok := bot) (keep_int bot) (fun _ hb _ => hb.elim) (fun g hg => heap_setB (by have := (hu.lt g hg).1; omega))
  ⟨f _ _ h.oa, f _ _ h.ob, f _ _ h.oc, h.ab, h.ac, h.bc⟩
theorem agree_setB {w1 : World} (h : Agree (fun b => b ≠ B) w1 w) (o : Nat) (v : Value) : Agree (fun b => b ≠ B) w1 (w.setCell ⟨B, o, none⟩ v) := fun b hb hlt => (heap_setB hb).trans (h b hb hlt)
end

/-- what a call of Rows leaves -/
structure RowsR (w : World) (er : Int) (V : List Int) (e : Ending) (w' : World) : Prop where
  ret : ∃ A1 c1 A2 c2 A3 c3, e = .returned (.tuple #[.agg #[.slice A1 (letO V).length c1, .slice A2 (marO V).length c2, .slice A3 (greO V).length c3], .int .i64 er]) ∧ Ints w' A1 (letO V).length c1 (letO V) ∧ Ints w' A2 (marO V).length c2 (marO V) ∧ Ints w' A3 (greO V).length c3 (greO V)
  ext : Ext w w'

set_option maxRecDepth 1000000 in
set_option maxHeartbeats 16000000 in
theorem refRows_any (A : Option Addr) (n c : Nat) (l : List Int) (w : World) (h : Runes w A n c l) :
    Calls Try.prog 17 #[.slice A n c] w fun e w' => RowsR w (apartE l) (apartV l) e w' := by
  have e1 := (Ext.refl w).alloc (.cells #[.slice none 0 0, .slice none 0 0, .slice none 0 0] 37)
  have a1 := Wr.new w #[.slice none 0 0, .slice none 0 0, .slice none 0 0] 37
  have p0 : CellB w.heap.size (w.alloc (.cells #[.slice none 0 0, .slice none 0 0, .slice none 0 0] 37)) (.slice none 0 0) (.slice none 0 0) (.slice none 0 0) :=
    ⟨cell_new _ _ _ _ _ rfl, cell_new _ _ _ _ _ rfl, cell_new _ _ _ _ _ rfl, a1.2, by simp⟩
  have z1 : (w.alloc (.cells #[.slice none 0 0, .slice none 0 0, .slice none 0 0] 37)).heap.size = w.heap.size + 1 := by simp
  have e2 := (Ext.refl (w.alloc (.cells #[.slice none 0 0, .slice none 0 0, .slice none 0 0] 37))).alloc (.cells #[.slice none 0 0, .slice none 0 0, .slice none 0 0] 37)
  have a2 := Wr.new (w.alloc (.cells #[.slice none 0 0, .slice none 0 0, .slice none 0 0] 37)) #[.slice none 0 0, .slice none 0 0, .slice none 0 0] 37
  have p1 : CellB (w.alloc (.cells #[.slice none 0 0, .slice none 0 0, .slice none 0 0] 37)).heap.size ((w.alloc (.cells #[.slice none 0 0, .slice none 0 0, .slice none 0 0] 37)).alloc (.cells #[.slice none 0 0, .slice none 0 0, .slice none 0 0] 37)) (.slice none 0 0) (.slice none 0 0) (.slice none 0 0) :=
    ⟨cell_new _ _ _ _ _ rfl, cell_new _ _ _ _ _ rfl, cell_new _ _ _ _ _ rfl, a2.2, by simp⟩
  rw [z1] at p1
  have P0 := Lib.hid (p0.ext e2); have P1 := Lib.hid p1; have E0 := Lib.hid (e1.trans e2)
  have hR0 := Lib.hid (h.ext (e1.trans e2))
  have HLN := Lib.hid (apart_len l)
  clear e1 a1 p0 z1 e2 a2 p1 h
  go_enter Try.func17, Try.ntmps17
  go_upto_region 2 with fail
  generalize (w.alloc (.cells #[.slice none 0 0, .slice none 0 0, .slice none 0 0] 37)).alloc (.cells #[.slice none 0 0, .slice none 0 0, .slice none 0 0] 37) = w0 at *
  have C1 := Lib.hid (refApart_any A n c l w0 hR0.out)
  have HWB0 : w.heap.size ≤ w.heap.size + 1 := by omega
  have HWH0 : w.heap.size ≤ w.heap.size := Nat.le_refl _
  have hHB0 : w.heap.size ≠ w.heap.size + 1 := by omega
  generalize hH : w.heap.size = H at P0 P1 HWB0 HWH0 hHB0 ⊢
  have HWB := Lib.hid (show w.heap.size ≤ H + 1 by omega); have HWH := Lib.hid (show w.heap.size ≤ H by omega)
  clear hH hR0 HWB0 HWH0 hHB0
  by_cases he : apartE l = 0
  · have HE := Lib.hid he
    rw [he] at C1
    have CL := Lib.hid (fun r W => refClass_any r W)
    have CO := Lib.hid (fun r W h => refLower_any r W h)
    clear he
    have HV0 := Lib.hid (show apartV l = apartV l from rfl)
    obtain ⟨V, hV⟩ : ∃ V, apartV l = V := ⟨_, rfl⟩
    have HVV := Lib.hid hV
    rw [hV] at C1 HLN
    clear hV HV0
    go_wp2_with (go_at_call 10; ((with_reducible refine C1.out.mono ?_); rintro e w1 ⟨⟨v, rfl, o1⟩, x1⟩; obtain ⟨AV, cV, rfl, s1⟩ := o1.sl; have S1 := Lib.hid s1; have X1 := Lib.hid x1; clear o1 x1 s1))
    have hcap := S1.out.cap
    have hm := S1.out.max; unfold maxLen at hm
    have HB1 := Lib.hid (show H + 1 < w1.heap.size from Nat.lt_of_lt_of_le P1.out.lt.1 X1.out.size)
    have S1' := Lib.hid (show SlR rRune 1 (fun b => b ≠ H + 1) w1 AV V.length cV V from S1.out.mono (fun _ _ h => h) (fun b hb => by have := P1.out.lt.1; have h2 : w0.heap.size ≤ b := hb; omega))
    obtain ⟨N, hN⟩ : ∃ N, V.length = N := ⟨_, rfl⟩
    rw [hN] at S1 S1' hcap ⊢
    have HN := Lib.hid hN
    have CB1 := Lib.hid (P1.out.ext X1.out); have RB1 := Lib.hid (P0.out.ext X1.out)
    have X01 := Lib.hid (E0.out.trans X1.out)
    clear hN C1 S1 P0 P1 E0 X1
    go_loopw [21] (fun vi wr => ∃ (k : Nat) (a b c : Value), vi = .int .i64 k ∧ k ≤ N ∧ Hid (Own3 w1.heap.size wr a b c (letO (V.take k)) (marO (V.take k)) (greO (V.take k))) ∧ Hid (CellB (H + 1) wr a b c) ∧ Hid (Agree (fun b => b ≠ H + 1) w1 wr) ∧ w1.heap.size ≤ wr.heap.size ∧ Hid (Ext w wr)) (fun vi _ => N - (intOf vi).toNat)
    case atStart => exact ⟨0, _, _, _, rfl, by omega, Lib.hid (Own3.nil _ _), CB1, Lib.hid (Agree.refl _ _), Nat.le_refl _, X01⟩
    case round =>
      obtain ⟨k, va, vb, vc, rfl, hk, OW, CB0, AG, hsz, HX⟩ := hrel
      clear CB1 X01
      have SZ := Lib.hid hsz; clear hsz
      have k0 := CB0.out.c0; have k1 := CB0.out.c1; have k2 := CB0.out.c2; have kz := CB0.out.fz; have kb := CB0.out.lt
      by_cases hlt : k < N
      · have gz : (k : Int) < (N : Int) := by omega
        have hR : Runes wr AV N cV V := (S1'.out.keep (keep_rune _) AG.out).mono (fun _ _ h => h) (fun _ _ => trivial)
        obtain ⟨x, hxx⟩ := hR.idx hlt
        obtain ⟨b, off, rfl, hbb, hc, hi1, hi2⟩ := hR.rune hxx
        have HI := Lib.hid (show i32 x from ⟨hi1, hi2⟩)
        have CX := Lib.hid (fun W => CL.out x W)
        have CLO := Lib.hid (fun W => CO.out x W ⟨hi1, hi2⟩)
        have h2 : (V.take k).length ≤ 4000 := (by rw [List.length_take]; have := HLN.out; omega)
        have HF1 := Lib.hid (Nat.le_trans (letO_len (V.take k)) h2)
        have HF2 := Lib.hid (show (marO (V.take k)).length ≤ 4000 by rw [marO_len]; exact h2)
        have HF3 := Lib.hid (Nat.le_trans (greO_len (V.take k)) h2)
        have HV := Lib.hid hxx
        have HQ := Lib.hid (show isMark x = decide (0 < clsOf x) from rfl)
        clear hR hxx h2
        obtain ⟨cx, hcx⟩ : ∃ q, clsOf x = q := ⟨_, rfl⟩
        rw [hcx] at CX HQ
        clear hcx
        have wx : IntKind.i64.wrap x = x := IntWalk.i64_in _ (by omega)
        by_cases h0 : 0 < cx
        · have gd : decide (0 < cx) = true := decide_eq_true h0
          have hm : isMark x = true := by rw [HQ.out]; exact gd
          have E1 := Lib.hid (letO_mark HV.out hm); have E2 := Lib.hid (marO_mark HV.out hm); have E3 := Lib.hid (greO_mark HV.out hm)
          have e9 := (Ext.refl wr).alloc (.cells #[.int .i64 x] 3)
          have OW9 := Lib.hid (OW.out.ext e9)
          have SZ9 := Lib.hid (Nat.le_trans SZ.out e9.size)
          have AG9 := Lib.hid (AG.out.trans' (e9.agree _) SZ.out)
          have HX9 := Lib.hid (HX.out.trans e9)
          have S9 := Lib.hid (one_newI wr x 3 (i64_of_i32 HI.out))
          have CB9 := Lib.hid (CB0.out.ext e9)
          clear e9 hm
          go_wp2_with (first
            | (go_at_call 8; ((with_reducible refine (CX.out _).mono ?_); rintro e w' ⟨rfl, rfl⟩))
            | (refine wpList_appS T_int (by omega) rfl (.tmp 29) (.tmp 32) rfl rfl OW9.out.ob rfl S9.out (fun _ _ h => h) one_int (keep_int bot) (bot_no _) (by have := HF2.out; omega) SZ9.out ?_; intro v10 w10 o10 g10 hat10; obtain ⟨A10, n10, c10, rfl⟩ : ∃ A n c, v10 = .slice A n c := (o10.form.elim fun A h => h.elim fun c h => ⟨A, _, c, h.1⟩); have OW10 := Lib.hid (OW9.out.growB o10 g10 hat10); have CB10 := Lib.hid (CB9.out.grown g10 (fun e => by have := (OW9.out.ob.lt _ e).1; have := HB1.out; omega)); have AG10 := Lib.hid (agree_app AG9.out SZ9.out g10 (fun g hg => .inr (OW9.out.ob.lt g hg).1)); have SZ10 := Lib.hid (Nat.le_trans SZ9.out g10.size); have HX10 := Lib.hid (HX9.out.grown g10 (fun g hg => by have := (OW9.out.ob.lt g hg).1; have := HB1.out; have := HWB.out; omega)); have m1 := CB10.out.c1; have mz := CB10.out.fz; have mb := CB10.out.lt; clear o10 g10 hat10))
          have CB11 := Lib.hid (CB10.out.set1 (.slice A10 n10 c10))
          have OW11 := Lib.hid (OW10.out.setB HB1.out 1 (.slice A10 n10 c10))
          have AG11 := Lib.hid (agree_setB AG10.out 1 (.slice A10 n10 c10))
          have SZ11 := show w1.heap.size ≤ (w10.setCell ⟨H + 1, 1, none⟩ (.slice A10 n10 c10)).heap.size from by simpa [World.setCell] using SZ10.out
          have HX11 := Lib.hid (ext_set HX10.out HWB.out 1 (.slice A10 n10 c10))
          go_roundw
          case rel => exact ⟨k + 1, va, (.slice A10 n10 c10), vc, by go_num, by omega, by rw [E1.out, E2.out, E3.out]; exact OW11, CB11, AG11, SZ11, HX11⟩
          case measure => simp [intOf]; omega
        · have gd : decide (0 < cx) = false := decide_eq_false h0
          have hm : isMark x = false := by rw [HQ.out]; exact gd
          have E1 := Lib.hid (letO_let HV.out hm); have E2 := Lib.hid (marO_let HV.out hm); have E3 := Lib.hid (greO_let HV.out hm)
          have HLO := lower_i32 HI.out
          obtain ⟨lo, hlo⟩ : ∃ q, lowerI x = q := ⟨_, rfl⟩
          rw [hlo] at HLO CLO E1 E3
          have HLI := Lib.hid (i64_of_i32 HLO)
          have wl : IntKind.i64.wrap lo = lo := IntWalk.i64_in _ (by have := HLO.1; have := HLO.2; omega)
          clear hlo hm HLO
          obtain ⟨g, hg⟩ : ∃ g : Int, g = if lo = x then 0 else 1 := ⟨_, rfl⟩
          rw [← hg] at E3
          have HGI := Lib.hid (show i64 g by rw [hg]; split <;> exact ⟨by omega, by omega⟩)
          by_cases hgl : lo = x
          · have hgq : (lo != x) = false := by simp [hgl]
            rw [if_pos hgl] at hg
            subst hg
            clear hgl
            go_upto_region 13 with (first
              | (go_at_call 8; ((with_reducible refine (CX.out _).mono ?_); rintro e w' ⟨rfl, rfl⟩))
              | (go_at_call 35; ((with_reducible refine (CLO.out _).mono ?_); rintro e w4 ⟨rfl, x4⟩; have X4 := Lib.hid x4; clear x4)))
            have CB4 := (CB0.out.ext X4.out).ext (Ext.refl w4).drew
            have X4D := Lib.hid (X4.out.trans (Ext.refl w4).drew)
            clear k0 k1 k2 kz kb hc
            have q0 := CB4.c0; have q1 := CB4.c1; have q2 := CB4.c2; have qz := CB4.fz; have qb := CB4.lt
            refine wp_region_E (fun w' => w'.cell? ⟨H + 1, 0, none⟩ = some va) 8 (by kernel_rfl) ?_
            have hS : (fun w' : World => w'.cell? ⟨H + 1, 0, none⟩ = some va) w4.drew := q0
            refine wpE_take [6, 1] (i := 0) (v := ?vp0) rfl (by kernel_rfl) (by kernel_rfl) (by kernel_rfl) (by kernel_rfl) (by kernel_rfl) (fun _ _ _ h => h) hS (Or.inl ⟨by rfl, ?hyp0⟩) ?restp0
            case hyp0 =>
              intro w' hSw
              try dsimp only at hSw
              go_simp
              with_reducible rfl
            simp only [Act.put, List.getElem_toArray, List.getElem_cons_zero, List.getElem_cons_succ, List.setIfInBounds_toArray, List.set_cons_zero, List.set_cons_succ]
            refine wpE_take [6] (i := 1) (v := ?vp1) rfl (by kernel_rfl) (by kernel_rfl) (by kernel_rfl) (by kernel_rfl) (by kernel_rfl) (fun _ _ _ h => h) hS (Or.inl ⟨by rfl, ?hyp1⟩) ?restp1
            case hyp1 =>
              intro w' hSw
              try dsimp only at hSw
              go_simp
              with_reducible rfl
            simp only [Act.put, List.getElem_toArray, List.getElem_cons_zero, List.getElem_cons_succ, List.setIfInBounds_toArray, List.set_cons_zero, List.set_cons_succ]
            refine wpE_take [6, 5, 4, 3] (i := 2) (v := ?vp2) rfl (by kernel_rfl) (by kernel_rfl) (by kernel_rfl) (by kernel_rfl) (by kernel_rfl) (fun _ _ _ h => h) hS (Or.inl ⟨by rfl, ?hyp2⟩) ?restp2
            case hyp2 =>
              intro w' hSw
              try dsimp only at hSw
              go_simp
              with_reducible rfl
            simp only [Act.put, List.getElem_toArray, List.getElem_cons_zero, List.getElem_cons_succ, List.setIfInBounds_toArray, List.set_cons_zero, List.set_cons_succ]
            refine wpE_one (i := 3) rfl (by kernel_rfl) (fun K1 hK1 => ?_)
            go_simp
            go_at_call 35
            refine (CLO.out _).mono ?_
            rintro e w5 ⟨rfl, x5⟩
            have X5 := Lib.hid (X4D.out.trans x5)
            have CB5 := CB4.ext x5
            dsimp only
            refine hK1.out _ _ (.inr CB5.c0) ?_
            try simp only [Act.put, List.getElem_toArray, List.getElem_cons_zero, List.getElem_cons_succ, List.setIfInBounds_toArray, List.set_cons_zero, List.set_cons_succ]
            refine wpE_one (i := 4) rfl (by kernel_rfl) (fun K2 hK2 => ?_)
            go_simp
            refine hK2.out _ _ (.inr CB5.c0) ?_
            try simp only [Act.put, List.getElem_toArray, List.getElem_cons_zero, List.getElem_cons_succ, List.setIfInBounds_toArray, List.set_cons_zero, List.set_cons_succ]
            have e6 := (Ext.refl w5).alloc (.cells #[.int .i64 lo] 3)
            have CB6 := CB5.ext e6
            refine wpE_one (i := 5) rfl (by kernel_rfl) (fun K3 hK3 => ?_)
            go_simp
            refine hK3.out _ _ (.inr CB6.c0) ?_
            try simp only [Act.put, List.getElem_toArray, List.getElem_cons_zero, List.getElem_cons_succ, List.setIfInBounds_toArray, List.set_cons_zero, List.set_cons_succ]
            have X6 := Lib.hid (X5.out.trans e6)
            have OW6 := Lib.hid (OW.out.ext X6.out)
            have AG6 := Lib.hid (AG.out.trans' (X6.out.agree _) SZ.out)
            have SZ6 := Lib.hid (Nat.le_trans SZ.out X6.out.size)
            have HX6 := Lib.hid (HX.out.trans X6.out)
            have S6 := Lib.hid (one_newI w5 lo 3 HLI.out)
            have CBH6 := Lib.hid CB6
            refine wpE_one (i := 6) rfl (by kernel_rfl) (fun K4 hK4 => ?_)
            refine step_appS T_int (by omega) rfl (.tmp 40) (.tmp 44) rfl rfl OW6.out.oa rfl S6.out (fun _ _ h => h) one_int (keep_int bot) (bot_no _) ?_ SZ6.out ?_
            · have := HF1.out; omega
            intro v7 w7 o7 g7 hat7
            obtain ⟨A7, n7, c7, rfl⟩ : ∃ A n c, v7 = .slice A n c := (o7.form.elim fun A h => h.elim fun c h => ⟨A, _, c, h.1⟩)
            have OW7 := Lib.hid (OW6.out.growA o7 g7 hat7)
            have CB7 := CBH6.out.grown g7 (fun e => by have := (OW6.out.oa.lt _ e).1; have := HB1.out; omega)
            have AG7 := Lib.hid (agree_app AG6.out SZ6.out g7 (fun g hg => .inr (OW6.out.oa.lt g hg).1))
            have SZ7 := Lib.hid (Nat.le_trans SZ6.out g7.size)
            have HX7 := Lib.hid (HX6.out.grown g7 (fun g hg => by have := (OW6.out.oa.lt g hg).1; have := HB1.out; have := HWB.out; omega))
            refine hK4.out _ _ (.inr CB7.c0) ?_
            try simp only [Act.put, List.getElem_toArray, List.getElem_cons_zero, List.getElem_cons_succ, List.setIfInBounds_toArray, List.set_cons_zero, List.set_cons_succ]
            refine wpE_one (i := 7) rfl (by kernel_rfl) (fun K6 hK6 => ?_)
            go_simp
            refine hK6.out _ _ (.inr CB7.c0) ?_
            try simp only [Act.put, List.getElem_toArray, List.getElem_cons_zero, List.getElem_cons_succ, List.setIfInBounds_toArray, List.set_cons_zero, List.set_cons_succ]
            have m0 := CB7.c0; have mz := CB7.fz; have mb := CB7.lt
            refine wpE_one (i := 8) rfl (by kernel_rfl) (fun K5 hK5 => ?_)
            go_simp
            refine hK5.out _ _ (.inl rfl) ?_
            refine wpE_done (by kernel_rfl) ?_ _
            try simp only [Act.put, List.getElem_toArray, List.getElem_cons_zero, List.getElem_cons_succ, List.setIfInBounds_toArray, List.set_cons_zero, List.set_cons_succ]
            have CB8 := CB7.set0 (.slice A7 n7 c7)
            have OW8 := Lib.hid (OW7.out.setB HB1.out 0 (.slice A7 n7 c7))
            have AG8 := Lib.hid (agree_setB AG7.out 0 (.slice A7 n7 c7))
            have SZ8 := Lib.hid (show w1.heap.size ≤ (w7.setCell ⟨H + 1, 0, none⟩ (.slice A7 n7 c7)).heap.size from by simpa [World.setCell] using SZ7.out)
            have HX8 := Lib.hid (ext_set HX7.out HWB.out 0 (.slice A7 n7 c7))
            generalize w7.setCell ⟨H + 1, 0, none⟩ (.slice A7 n7 c7) = w8 at *
            have CBX := Lib.hid CB8
            clear q0 q1 q2 qz qb hS m0 mz mb CB4 CB5 CB6 CB7 CB8 o7 g7 hat7 x5 e6
            have k0 := CBX.out.c0; have k1 := CBX.out.c1; have k2 := CBX.out.c2; have kz := CBX.out.fz; have kb := CBX.out.lt
            have e9 := (Ext.refl w8).alloc (.cells #[.int .i64 0] 3)
            have OW9 := Lib.hid (OW8.out.ext e9)
            have SZ9 := Lib.hid (Nat.le_trans SZ8.out e9.size)
            have AG9 := Lib.hid (AG8.out.trans' (e9.agree _) SZ8.out)
            have HX9 := Lib.hid (HX8.out.trans e9)
            have S9 := Lib.hid (one_newI w8 0 3 ⟨by omega, by omega⟩)
            have CB9 := Lib.hid (CBX.out.ext e9)
            clear e9
            go_upto_region 15 with (refine wpList_appS T_int (by omega) rfl (.tmp 48) (.tmp 49) rfl rfl OW9.out.ob rfl S9.out (fun _ _ h => h) one_int (keep_int bot) (bot_no _) (by have := HF2.out; omega) SZ9.out ?_; intro v10 w10 o10 g10 hat10; obtain ⟨A10, n10, c10, rfl⟩ : ∃ A n c, v10 = .slice A n c := (o10.form.elim fun A h => h.elim fun c h => ⟨A, _, c, h.1⟩); have OW10 := Lib.hid (OW9.out.growB o10 g10 hat10); have CB10 := Lib.hid (CB9.out.grown g10 (fun e => by have := (OW9.out.ob.lt _ e).1; have := HB1.out; omega)); have AG10 := Lib.hid (agree_app AG9.out SZ9.out g10 (fun g hg => .inr (OW9.out.ob.lt g hg).1)); have SZ10 := Lib.hid (Nat.le_trans SZ9.out g10.size); have HX10 := Lib.hid (HX9.out.grown g10 (fun g hg => by have := (OW9.out.ob.lt g hg).1; have := HB1.out; have := HWB.out; omega)); have m1 := CB10.out.c1; have mz := CB10.out.fz; have mb := CB10.out.lt; clear o10 g10 hat10)
            have CB11 := Lib.hid (CB10.out.set1 (.slice A10 n10 c10))
            have OW11 := Lib.hid (OW10.out.setB HB1.out 1 (.slice A10 n10 c10))
            have AG11 := Lib.hid (agree_setB AG10.out 1 (.slice A10 n10 c10))
            have SZ11 := Lib.hid (show w1.heap.size ≤ (w10.setCell ⟨H + 1, 1, none⟩ (.slice A10 n10 c10)).heap.size from by simpa [World.setCell] using SZ10.out)
            have HX11 := Lib.hid (ext_set HX10.out HWB.out 1 (.slice A10 n10 c10))
            generalize w10.setCell ⟨H + 1, 1, none⟩ (.slice A10 n10 c10) = w11 at *
            clear k0 k1 k2 kz kb m1 mz mb CBX
            have CBX := CB11
            have k0 := CBX.out.c0; have k1 := CBX.out.c1; have k2 := CBX.out.c2; have kz := CBX.out.fz; have kb := CBX.out.lt
            have e12 := (Ext.refl w11).alloc (.cells #[.int .i64 0] 3)
            have OW12 := Lib.hid (OW11.out.ext e12)
            have SZ12 := Lib.hid (Nat.le_trans SZ11.out e12.size)
            have AG12 := Lib.hid (AG11.out.trans' (e12.agree _) SZ11.out)
            have HX12 := Lib.hid (HX11.out.trans e12)
            have S12 := Lib.hid (one_newI w11 0 3 HGI.out)
            have CB12 := Lib.hid (CBX.out.ext e12)
            clear e12
            go_wp2_with (refine wpList_appS T_int (by omega) rfl (.tmp 53) (.tmp 55) rfl rfl OW12.out.oc rfl S12.out (fun _ _ h => h) one_int (keep_int bot) (bot_no _) (by have := HF3.out; omega) SZ12.out ?_; intro v13 w13 o13 g13 hat13; obtain ⟨A13, n13, c13, rfl⟩ : ∃ A n c, v13 = .slice A n c := (o13.form.elim fun A h => h.elim fun c h => ⟨A, _, c, h.1⟩); have OW13 := Lib.hid (OW12.out.growC o13 g13 hat13); have CB13 := Lib.hid (CB12.out.grown g13 (fun e => by have := (OW12.out.oc.lt _ e).1; have := HB1.out; omega)); have AG13 := Lib.hid (agree_app AG12.out SZ12.out g13 (fun g hg => .inr (OW12.out.oc.lt g hg).1)); have SZ13 := Lib.hid (Nat.le_trans SZ12.out g13.size); have HX13 := Lib.hid (HX12.out.grown g13 (fun g hg => by have := (OW12.out.oc.lt g hg).1; have := HB1.out; have := HWB.out; omega)); have m2 := CB13.out.c2; have mz := CB13.out.fz; have mb := CB13.out.lt; clear o13 g13 hat13)
            have CB14 := Lib.hid (CB13.out.set2 (.slice A13 n13 c13))
            have OW14 := Lib.hid (OW13.out.setB HB1.out 2 (.slice A13 n13 c13))
            have AG14 := Lib.hid (agree_setB AG13.out 2 (.slice A13 n13 c13))
            have SZ14 := show w1.heap.size ≤ (w13.setCell ⟨H + 1, 2, none⟩ (.slice A13 n13 c13)).heap.size from by simpa [World.setCell] using SZ13.out
            have HX14 := Lib.hid (ext_set HX13.out HWB.out 2 (.slice A13 n13 c13))
            go_roundw
            case rel => exact ⟨k + 1, (.slice A7 n7 c7), (.slice A10 n10 c10), (.slice A13 n13 c13), by go_num, by omega, by rw [E1.out, E2.out, E3.out]; exact OW14, CB14, AG14, SZ14, HX14⟩
            case measure => simp [intOf]; omega
          · have hgq : (lo != x) = true := by simp [hgl]
            rw [if_neg hgl] at hg
            subst hg
            clear hgl
            go_upto_region 13 with (first
              | (go_at_call 8; ((with_reducible refine (CX.out _).mono ?_); rintro e w' ⟨rfl, rfl⟩))
              | (go_at_call 35; ((with_reducible refine (CLO.out _).mono ?_); rintro e w4 ⟨rfl, x4⟩; have X4 := Lib.hid x4; clear x4)))
            have CB4 := (CB0.out.ext X4.out).ext (Ext.refl w4).drew
            have X4D := Lib.hid (X4.out.trans (Ext.refl w4).drew)
            clear k0 k1 k2 kz kb hc
            have q0 := CB4.c0; have q1 := CB4.c1; have q2 := CB4.c2; have qz := CB4.fz; have qb := CB4.lt
            refine wp_region_E (fun w' => w'.cell? ⟨H + 1, 0, none⟩ = some va) 8 (by kernel_rfl) ?_
            have hS : (fun w' : World => w'.cell? ⟨H + 1, 0, none⟩ = some va) w4.drew := q0
            refine wpE_take [6, 1] (i := 0) (v := ?vq0) rfl (by kernel_rfl) (by kernel_rfl) (by kernel_rfl) (by kernel_rfl) (by kernel_rfl) (fun _ _ _ h => h) hS (Or.inl ⟨by rfl, ?hyq0⟩) ?restq0
            case hyq0 =>
              intro w' hSw
              try dsimp only at hSw
              go_simp
              with_reducible rfl
            simp only [Act.put, List.getElem_toArray, List.getElem_cons_zero, List.getElem_cons_succ, List.setIfInBounds_toArray, List.set_cons_zero, List.set_cons_succ]
            refine wpE_take [6] (i := 1) (v := ?vq1) rfl (by kernel_rfl) (by kernel_rfl) (by kernel_rfl) (by kernel_rfl) (by kernel_rfl) (fun _ _ _ h => h) hS (Or.inl ⟨by rfl, ?hyq1⟩) ?restq1
            case hyq1 =>
              intro w' hSw
              try dsimp only at hSw
              go_simp
              with_reducible rfl
            simp only [Act.put, List.getElem_toArray, List.getElem_cons_zero, List.getElem_cons_succ, List.setIfInBounds_toArray, List.set_cons_zero, List.set_cons_succ]
            refine wpE_take [6, 5, 4, 3] (i := 2) (v := ?vq2) rfl (by kernel_rfl) (by kernel_rfl) (by kernel_rfl) (by kernel_rfl) (by kernel_rfl) (fun _ _ _ h => h) hS (Or.inl ⟨by rfl, ?hyq2⟩) ?restq2
            case hyq2 =>
              intro w' hSw
              try dsimp only at hSw
              go_simp
              with_reducible rfl
            simp only [Act.put, List.getElem_toArray, List.getElem_cons_zero, List.getElem_cons_succ, List.setIfInBounds_toArray, List.set_cons_zero, List.set_cons_succ]
            refine wpE_one (i := 3) rfl (by kernel_rfl) (fun K1 hK1 => ?_)
            go_simp
            go_at_call 35
            refine (CLO.out _).mono ?_
            rintro e w5 ⟨rfl, x5⟩
            have X5 := Lib.hid (X4D.out.trans x5)
            have CB5 := CB4.ext x5
            dsimp only
            refine hK1.out _ _ (.inr CB5.c0) ?_
            try simp only [Act.put, List.getElem_toArray, List.getElem_cons_zero, List.getElem_cons_succ, List.setIfInBounds_toArray, List.set_cons_zero, List.set_cons_succ]
            refine wpE_one (i := 4) rfl (by kernel_rfl) (fun K2 hK2 => ?_)
            go_simp
            refine hK2.out _ _ (.inr CB5.c0) ?_
            try simp only [Act.put, List.getElem_toArray, List.getElem_cons_zero, List.getElem_cons_succ, List.setIfInBounds_toArray, List.set_cons_zero, List.set_cons_succ]
            have e6 := (Ext.refl w5).alloc (.cells #[.int .i64 lo] 3)
            have CB6 := CB5.ext e6
            refine wpE_one (i := 5) rfl (by kernel_rfl) (fun K3 hK3 => ?_)
            go_simp
            refine hK3.out _ _ (.inr CB6.c0) ?_
            try simp only [Act.put, List.getElem_toArray, List.getElem_cons_zero, List.getElem_cons_succ, List.setIfInBounds_toArray, List.set_cons_zero, List.set_cons_succ]
            have X6 := Lib.hid (X5.out.trans e6)
            have OW6 := Lib.hid (OW.out.ext X6.out)
            have AG6 := Lib.hid (AG.out.trans' (X6.out.agree _) SZ.out)
            have SZ6 := Lib.hid (Nat.le_trans SZ.out X6.out.size)
            have HX6 := Lib.hid (HX.out.trans X6.out)
            have S6 := Lib.hid (one_newI w5 lo 3 HLI.out)
            have CBH6 := Lib.hid CB6
            refine wpE_one (i := 6) rfl (by kernel_rfl) (fun K4 hK4 => ?_)
            refine step_appS T_int (by omega) rfl (.tmp 40) (.tmp 44) rfl rfl OW6.out.oa rfl S6.out (fun _ _ h => h) one_int (keep_int bot) (bot_no _) ?_ SZ6.out ?_
            · have := HF1.out; omega
            intro v7 w7 o7 g7 hat7
            obtain ⟨A7, n7, c7, rfl⟩ : ∃ A n c, v7 = .slice A n c := (o7.form.elim fun A h => h.elim fun c h => ⟨A, _, c, h.1⟩)
            have OW7 := Lib.hid (OW6.out.growA o7 g7 hat7)
            have CB7 := CBH6.out.grown g7 (fun e => by have := (OW6.out.oa.lt _ e).1; have := HB1.out; omega)
            have AG7 := Lib.hid (agree_app AG6.out SZ6.out g7 (fun g hg => .inr (OW6.out.oa.lt g hg).1))
            have SZ7 := Lib.hid (Nat.le_trans SZ6.out g7.size)
            have HX7 := Lib.hid (HX6.out.grown g7 (fun g hg => by have := (OW6.out.oa.lt g hg).1; have := HB1.out; have := HWB.out; omega))
            refine hK4.out _ _ (.inr CB7.c0) ?_
            try simp only [Act.put, List.getElem_toArray, List.getElem_cons_zero, List.getElem_cons_succ, List.setIfInBounds_toArray, List.set_cons_zero, List.set_cons_succ]
            refine wpE_one (i := 7) rfl (by kernel_rfl) (fun K6 hK6 => ?_)
            go_simp
            refine hK6.out _ _ (.inr CB7.c0) ?_
            try simp only [Act.put, List.getElem_toArray, List.getElem_cons_zero, List.getElem_cons_succ, List.setIfInBounds_toArray, List.set_cons_zero, List.set_cons_succ]
            have m0 := CB7.c0; have mz := CB7.fz; have mb := CB7.lt
            refine wpE_one (i := 8) rfl (by kernel_rfl) (fun K5 hK5 => ?_)
            go_simp
            refine hK5.out _ _ (.inl rfl) ?_
            refine wpE_done (by kernel_rfl) ?_ _
            try simp only [Act.put, List.getElem_toArray, List.getElem_cons_zero, List.getElem_cons_succ, List.setIfInBounds_toArray, List.set_cons_zero, List.set_cons_succ]
            have CB8 := CB7.set0 (.slice A7 n7 c7)
            have OW8 := Lib.hid (OW7.out.setB HB1.out 0 (.slice A7 n7 c7))
            have AG8 := Lib.hid (agree_setB AG7.out 0 (.slice A7 n7 c7))
            have SZ8 := Lib.hid (show w1.heap.size ≤ (w7.setCell ⟨H + 1, 0, none⟩ (.slice A7 n7 c7)).heap.size from by simpa [World.setCell] using SZ7.out)
            have HX8 := Lib.hid (ext_set HX7.out HWB.out 0 (.slice A7 n7 c7))
            generalize w7.setCell ⟨H + 1, 0, none⟩ (.slice A7 n7 c7) = w8 at *
            have CBX := Lib.hid CB8
            clear q0 q1 q2 qz qb hS m0 mz mb CB4 CB5 CB6 CB7 CB8 o7 g7 hat7 x5 e6
            have k0 := CBX.out.c0; have k1 := CBX.out.c1; have k2 := CBX.out.c2; have kz := CBX.out.fz; have kb := CBX.out.lt
            have e9 := (Ext.refl w8).alloc (.cells #[.int .i64 0] 3)
            have OW9 := Lib.hid (OW8.out.ext e9)
            have SZ9 := Lib.hid (Nat.le_trans SZ8.out e9.size)
            have AG9 := Lib.hid (AG8.out.trans' (e9.agree _) SZ8.out)
            have HX9 := Lib.hid (HX8.out.trans e9)
            have S9 := Lib.hid (one_newI w8 0 3 ⟨by omega, by omega⟩)
            have CB9 := Lib.hid (CBX.out.ext e9)
            clear e9
            go_upto_region 15 with (refine wpList_appS T_int (by omega) rfl (.tmp 48) (.tmp 49) rfl rfl OW9.out.ob rfl S9.out (fun _ _ h => h) one_int (keep_int bot) (bot_no _) (by have := HF2.out; omega) SZ9.out ?_; intro v10 w10 o10 g10 hat10; obtain ⟨A10, n10, c10, rfl⟩ : ∃ A n c, v10 = .slice A n c := (o10.form.elim fun A h => h.elim fun c h => ⟨A, _, c, h.1⟩); have OW10 := Lib.hid (OW9.out.growB o10 g10 hat10); have CB10 := Lib.hid (CB9.out.grown g10 (fun e => by have := (OW9.out.ob.lt _ e).1; have := HB1.out; omega)); have AG10 := Lib.hid (agree_app AG9.out SZ9.out g10 (fun g hg => .inr (OW9.out.ob.lt g hg).1)); have SZ10 := Lib.hid (Nat.le_trans SZ9.out g10.size); have HX10 := Lib.hid (HX9.out.grown g10 (fun g hg => by have := (OW9.out.ob.lt g hg).1; have := HB1.out; have := HWB.out; omega)); have m1 := CB10.out.c1; have mz := CB10.out.fz; have mb := CB10.out.lt; clear o10 g10 hat10)
            have CB11 := Lib.hid (CB10.out.set1 (.slice A10 n10 c10))
            have OW11 := Lib.hid (OW10.out.setB HB1.out 1 (.slice A10 n10 c10))
            have AG11 := Lib.hid (agree_setB AG10.out 1 (.slice A10 n10 c10))
            have SZ11 := Lib.hid (show w1.heap.size ≤ (w10.setCell ⟨H + 1, 1, none⟩ (.slice A10 n10 c10)).heap.size from by simpa [World.setCell] using SZ10.out)
            have HX11 := Lib.hid (ext_set HX10.out HWB.out 1 (.slice A10 n10 c10))
            generalize w10.setCell ⟨H + 1, 1, none⟩ (.slice A10 n10 c10) = w11 at *
            clear k0 k1 k2 kz kb m1 mz mb CBX
            have CBX := CB11
            have k0 := CBX.out.c0; have k1 := CBX.out.c1; have k2 := CBX.out.c2; have kz := CBX.out.fz; have kb := CBX.out.lt
            have e12 := (Ext.refl w11).alloc (.cells #[.int .i64 1] 3)
            have OW12 := Lib.hid (OW11.out.ext e12)
            have SZ12 := Lib.hid (Nat.le_trans SZ11.out e12.size)
            have AG12 := Lib.hid (AG11.out.trans' (e12.agree _) SZ11.out)
            have HX12 := Lib.hid (HX11.out.trans e12)
            have S12 := Lib.hid (one_newI w11 1 3 HGI.out)
            have CB12 := Lib.hid (CBX.out.ext e12)
            clear e12
            go_wp2_with (refine wpList_appS T_int (by omega) rfl (.tmp 53) (.tmp 55) rfl rfl OW12.out.oc rfl S12.out (fun _ _ h => h) one_int (keep_int bot) (bot_no _) (by have := HF3.out; omega) SZ12.out ?_; intro v13 w13 o13 g13 hat13; obtain ⟨A13, n13, c13, rfl⟩ : ∃ A n c, v13 = .slice A n c := (o13.form.elim fun A h => h.elim fun c h => ⟨A, _, c, h.1⟩); have OW13 := Lib.hid (OW12.out.growC o13 g13 hat13); have CB13 := Lib.hid (CB12.out.grown g13 (fun e => by have := (OW12.out.oc.lt _ e).1; have := HB1.out; omega)); have AG13 := Lib.hid (agree_app AG12.out SZ12.out g13 (fun g hg => .inr (OW12.out.oc.lt g hg).1)); have SZ13 := Lib.hid (Nat.le_trans SZ12.out g13.size); have HX13 := Lib.hid (HX12.out.grown g13 (fun g hg => by have := (OW12.out.oc.lt g hg).1; have := HB1.out; have := HWB.out; omega)); have m2 := CB13.out.c2; have mz := CB13.out.fz; have mb := CB13.out.lt; clear o13 g13 hat13)
            have CB14 := Lib.hid (CB13.out.set2 (.slice A13 n13 c13))
            have OW14 := Lib.hid (OW13.out.setB HB1.out 2 (.slice A13 n13 c13))
            have AG14 := Lib.hid (agree_setB AG13.out 2 (.slice A13 n13 c13))
            have SZ14 := show w1.heap.size ≤ (w13.setCell ⟨H + 1, 2, none⟩ (.slice A13 n13 c13)).heap.size from by simpa [World.setCell] using SZ13.out
            have HX14 := Lib.hid (ext_set HX13.out HWB.out 2 (.slice A13 n13 c13))
            go_roundw
            case rel => exact ⟨k + 1, (.slice A7 n7 c7), (.slice A10 n10 c10), (.slice A13 n13 c13), by go_num, by omega, by rw [E1.out, E2.out, E3.out]; exact OW14, CB14, AG14, SZ14, HX14⟩
            case measure => simp [intOf]; omega
      · have gz : ¬ (k : Int) < (N : Int) := by omega
        have hO := OW.out
        rw [List.take_of_length_le (by rw [HN.out]; omega)] at hO
        obtain ⟨A1, c1, rfl, q1⟩ := hO.oa.sl
        obtain ⟨A2, c2, rfl, q2⟩ := hO.ob.sl
        obtain ⟨A3, c3, rfl, q3⟩ := hO.oc.sl
        have hH1 : H < w1.heap.size := by have := HB1.out; omega
        have kr := CellB.mk (B := H) (w := wr) (AG.out.cellAt (by omega) RB1.out.c0) (AG.out.cellAt (by omega) RB1.out.c1) (AG.out.cellAt (by omega) RB1.out.c2) (fun i => (frozen_agree (AG.out H (by omega) hH1)).trans (RB1.out.fz i)) (by have := SZ.out; omega)
        have r0 := kr.c0; have r1 := kr.c1; have r2 := kr.c2; have rz := kr.fz
        have far : ∀ (b : Nat), w1.heap.size ≤ b → b ≠ H := fun b hb => by omega
        have Q : ∀ (A : Option Addr) (n c : Nat) (ll : List Int) (W : World), SlR rInt 1 (fun b => w1.heap.size ≤ b) wr A n c ll → (∀ b, b ≠ H → W.heap[b]? = wr.heap[b]?) → Ints W A n c ll := fun A n c ll W hq hW =>
          (hq.keep (keep_int _) (fun b hb _ => hW b (far b hb))).mono (fun _ _ h => h) (fun _ _ => trivial)
        have hset : ∀ (x y z : Value) (b : Nat), b ≠ H → (((wr.setCell ⟨H, 0, none⟩ x).setCell ⟨H, 1, none⟩ y).setCell ⟨H, 2, none⟩ z).heap[b]? = wr.heap[b]? := fun x y z b hb => (heap_setB hb).trans ((heap_setB hb).trans (heap_setB hb))
        have Q1 := Lib.hid (fun x y z => Q _ _ _ _ _ q1 (hset x y z)); have Q2 := Lib.hid (fun x y z => Q _ _ _ _ _ q2 (hset x y z)); have Q3 := Lib.hid (fun x y z => Q _ _ _ _ _ q3 (hset x y z))
        clear hO OW q1 q2 q3 Q hset far kr
        go_wp2
        refine bodyPost_ret (v := .tuple #[.agg #[.slice A1 (letO V).length c1, .slice A2 (marO V).length c2, .slice A3 (greO V).length c3], .int .i64 0]) (by simp [results, Try.results17, go_sem, r0, r1, r2, rz]) rfl ?_
        rw [HE.out, HVV.out]
        exact ⟨⟨_, _, _, _, _, _, rfl, Q1.out _ _ _, Q2.out _ _ _, Q3.out _ _ _⟩, ext_set (ext_set (ext_set HX.out HWH.out _ _) HWH.out _ _) HWH.out _ _⟩
  · have HA := Lib.hid (apart_nil he)
    have hn : (apartE l != 0) = true := by simpa using he
    have HEE := Lib.hid he
    obtain ⟨er, her⟩ : ∃ q, apartE l = q := ⟨_, rfl⟩
    have HER := Lib.hid her
    rw [her] at C1 hn
    clear he her HLN
    go_wp2_with (go_at_call 10; ((with_reducible refine C1.out.mono ?_); rintro e w1 ⟨⟨v, rfl, o1⟩, x1⟩; have RB := P0.out.ext x1; have OB := P1.out.ext x1; have r0 := RB.c0; have r1 := RB.c1; have r2 := RB.c2; have rz := RB.fz; have r3 := RB.lt; have m0 := OB.c0; have m1 := OB.c1; have m2 := OB.c2; have X1 := Lib.hid x1; clear x1 RB OB))
    refine bodyPost_ret (v := .tuple #[.agg #[.slice none 0 0, .slice none 0 0, .slice none 0 0], .int .i64 er]) (by simp [results, Try.results17, go_sem, r0, r1, r2, rz]) rfl ?_
    rw [HER.out, HA.out]
    exact ⟨⟨none, 0, none, 0, none, 0, rfl, SlR.nil _ _ _ _ _ _ (by unfold maxLen; omega), SlR.nil _ _ _ _ _ _ (by unfold maxLen; omega), SlR.nil _ _ _ _ _ _ (by unfold maxLen; omega)⟩, ext_set (ext_set (ext_set (E0.out.trans X1.out) HWH.out _ _) HWH.out _ _) HWH.out _ _⟩

end Go.Proofs.Ytbcmfebfcoedkaa
