/- Walk: Pairs of the program. -/
import Derived.Test.YtbcmfebfcoedkaaZ14
namespace Go.Proofs.Ytbcmfebfcoedkaa
open Go.RowKit
set_option linter.unusedVariables false
set_option linter.unusedSimpArgs false

/-- '[]rune(s)' of a string whose runes are known -/
theorem conv_runes (s : ByteArray) (l : List Int) (h : Conv.runesFrom s s.size 0 #[] = (l.map (Value.int .i32)).toArray) (hl : l.length ≤ 12) (hr : ∀ r ∈ l, i32 r) :
    ∃ (cp : World → Nat) (cl : World → Array Value), (∀ W, (convert 9 22 (.string s)).run Try.prog W = .ok (.slice (some ⟨W.heap.size, 0, none⟩) l.length (cp W)) (W.drew.alloc (.cells (cl W) 21))) ∧
      ∀ W, Runes (W.drew.alloc (.cells (cl W) 21)) (some ⟨W.heap.size, 0, none⟩) l.length (cp W) l := by
  have hsz : (Conv.runesFrom s s.size 0 #[]).size = l.length := by rw [h]; simp
  refine ⟨fun W => grownCap W l.length 0 21, fun W => (l.map (Value.int .i32)).toArray ++ Array.replicate (grownCap W l.length 0 21 - l.length) (.int .i32 0), fun W => ?_, fun W => ?_⟩
  · have := run_runes_of_string (P := Try.prog) W 9 22 21 s Try.underlying9 Try.underlying22 Try.underlying21 (by rw [hsz]; omega)
    rw [hsz, h] at this
    exact this
  · have hs : W.drew.heap.size = W.heap.size := rfl
    have hc := grownCap_ge W l.length 0 21
    have hcm := grownCap_le_maxLen W l.length 0 21 (by unfold maxLen; omega)
    refine ⟨rfl, hc, hcm, fun k x hx => ⟨_, 0, [.int .i32 x], rfl, trivial, rfl, ⟨rfl, hr x (List.mem_of_getElem? hx)⟩, fun j u hu => ?_⟩⟩
    match j, hu with
    | 0, hu =>
      rw [← hs]
      refine cell_new W.drew _ 21 _ u ?_
      have hk := lt_of_get hx
      simp only [List.getElem?_cons_zero, Option.some.injEq] at hu
      subst hu
      rw [Array.getElem?_append_left (by simp; omega)]
      simp [hx]

/-- nothing but the row's own block has turned -/
theorem agree_app {W0 w w' : World} {v : Value} {ok : Nat → Prop} (h : Agree ok W0 w) (hs : W0.heap.size ≤ w.heap.size) (hg : w.grownBy w' v.ownBlock) (hv : ∀ g, v.ownBlock = some g → ¬ ok g ∨ W0.heap.size ≤ g) : Agree ok W0 w' :=
  fun b ho hb => (hg.block b (by omega) (fun e => by rcases hv b e.symm with h1 | h1; exact h1 ho; omega)).trans (h b ho hb)

theorem slr_ok {α : Type} {R : World → List Value → α → Prop} {sz : Nat} {ok ok' : Nat → Prop} {w : World} {b off n c : Nat} {l : List α} (h : SlR R sz ok w (some ⟨b, off, none⟩) n c l) (hb : ok' b) : SlR R sz ok' w (some ⟨b, off, none⟩) n c l :=
  ⟨h.len, h.cap, h.max, fun k x hx => by
    obtain ⟨b', off', vs, e, _, h1, h2, h3⟩ := h.at_ k x hx
    have e' := e
    injection e' with e'
    injection e' with e1 e2
    subst e1
    exact ⟨_, off', vs, e, hb, h1, h2, h3⟩⟩

structure RowStart (wr W3 : World) (x : Rw) (c1 c2 : Nat) : Prop where
  ext : Ext wr W3
  mark : W3.cell? ⟨wr.heap.size, 0, none⟩ = some (.int .i32 x.mark)
  whole : Runes W3 (some ⟨wr.heap.size + 1, 0, none⟩) x.ws.length c1 x.ws
  bare : Runes W3 (some ⟨wr.heap.size + 1 + 1, 0, none⟩) x.bs.length c2 x.bs
  size : wr.heap.size + 3 ≤ W3.heap.size
theorem rowStart (wr : World) (x : Rw) (cp1 cp2 : World → Nat) (cl1 cl2 : World → Array Value)
    (ru1 : ∀ W, Runes (W.drew.alloc (.cells (cl1 W) 21)) (some ⟨W.heap.size, 0, none⟩) x.ws.length (cp1 W) x.ws) (ru2 : ∀ W, Runes (W.drew.alloc (.cells (cl2 W) 21)) (some ⟨W.heap.size, 0, none⟩) x.bs.length (cp2 W) x.bs) :
    RowStart wr ((((wr.alloc (.cells #[.int .i32 x.mark, .string x.bare, .string x.whole] 51)).alloc (.cells (cl1 (wr.alloc (.cells #[.int .i32 x.mark, .string x.bare, .string x.whole] 51))) 21)).alloc
      (.cells (cl2 ((wr.alloc (.cells #[.int .i32 x.mark, .string x.bare, .string x.whole] 51)).alloc (.cells (cl1 (wr.alloc (.cells #[.int .i32 x.mark, .string x.bare, .string x.whole] 51))) 21)).drew) 21)).drew.drew) x
      (cp1 (wr.alloc (.cells #[.int .i32 x.mark, .string x.bare, .string x.whole] 51))) (cp2 ((wr.alloc (.cells #[.int .i32 x.mark, .string x.bare, .string x.whole] 51)).alloc (.cells (cl1 (wr.alloc (.cells #[.int .i32 x.mark, .string x.bare, .string x.whole] 51))) 21)).drew) := by
  have e1 : (wr.alloc (.cells #[.int .i32 x.mark, .string x.bare, .string x.whole] 51)).heap.size = wr.heap.size + 1 := by simp
  have m1 : (wr.alloc (.cells #[.int .i32 x.mark, .string x.bare, .string x.whole] 51)).cell? ⟨wr.heap.size, 0, none⟩ = some (.int .i32 x.mark) := cell_new _ _ _ _ _ rfl
  have x1 := (Ext.refl wr).alloc (.cells #[.int .i32 x.mark, .string x.bare, .string x.whole] 51)
  generalize wr.alloc (.cells #[.int .i32 x.mark, .string x.bare, .string x.whole] 51) = W1 at *
  have r1 := ru1 W1
  rw [e1] at r1
  have e2 : (W1.alloc (.cells (cl1 W1) 21)).heap.size = wr.heap.size + 1 + 1 := by simp [e1]
  have x2 := (Ext.refl W1).alloc (.cells (cl1 W1) 21)
  have r1' : Runes (W1.alloc (.cells (cl1 W1) 21)).drew (some ⟨wr.heap.size + 1, 0, none⟩) x.ws.length (cp1 W1) x.ws := r1
  generalize W1.alloc (.cells (cl1 W1) 21) = W2 at *
  have r2 := ru2 W2.drew
  have e2' : W2.drew.heap.size = wr.heap.size + 1 + 1 := e2
  rw [e2'] at r2
  have r2' : Runes (W2.alloc (.cells (cl2 W2.drew) 21)).drew.drew (some ⟨wr.heap.size + 1 + 1, 0, none⟩) x.bs.length (cp2 W2.drew) x.bs := r2
  have x3 := ((Ext.refl W2).alloc (.cells (cl2 W2.drew) 21)).drew.drew
  have x3' : Ext W2.drew (W2.alloc (.cells (cl2 W2.drew) 21)).drew.drew := ((Ext.refl W2.drew).alloc (.cells (cl2 W2.drew) 21)).drew
  have e3 : (W2.alloc (.cells (cl2 W2.drew) 21)).drew.drew.heap.size = wr.heap.size + 1 + 1 + 1 := by
    show (W2.alloc (.cells (cl2 W2.drew) 21)).heap.size = _
    simp [e2]
  exact ⟨(x1.trans x2).trans x3, (x2.trans x3).cell m1, r1'.ext x3', r2', by rw [e3]; omega⟩

set_option maxRecDepth 1000000 in
set_option maxHeartbeats 6400000 in
theorem Pairs_any (w : World) : Calls Try.prog 5 #[] w fun e w' => ∃ A c, e = .returned (.slice A 74 c) ∧ Pairs w' A 74 c pairsL ∧ Ext w w' := by
  have C := Lib.hid (rows_any w)
  have HL := Lib.hid pairs_len
  have HR := Lib.hid rows_pairs
  go_enter Try.func5, Try.ntmps5
  go_wp2_with (go_at_call 23; refine C.out.mono ?_; rintro e w1 ⟨A, c, rfl, ht, x1⟩)
  have HT := Lib.hid ht; clear ht
  have X1 := Lib.hid x1; clear x1
  clear C
  go_loopw [1, 9] (fun vo vi wr => ∃ (k : Nat) (v : Value), v = vo ∧ vi = .int .i64 k ∧ k ≤ 11 ∧ Hid (OwnR rPair 27 3 w1.heap.size wr v ((rowsL.take k).flatMap pairsRow)) ∧ Hid (Ext w1 wr)) (fun _ vi _ => 11 - (intOf vi).toNat)
  case atStart => exact ⟨0, _, rfl, rfl, by omega, Lib.hid (OwnR.nil _ _ _ _ _), Lib.hid (Ext.refl _)⟩
  case round =>
    obtain ⟨k, v, rfl, rfl, hk, HO, HX⟩ := hrel
    by_cases hlt : k < 11
    · have gz : (k : Int) < 11 := by omega
      obtain ⟨x, hx⟩ : ∃ x, rowsL[k]? = some x := ⟨_, List.getElem?_eq_getElem (by rw [rows_len]; exact hlt)⟩
      obtain ⟨b, off, rfl, ⟨hbl, hbn⟩, h0, h1, h2⟩ := (SlR.ext (keep_rw top) HT.out HX.out).rw hx
      obtain ⟨g1, g2, g3, g4, g5, g6, g7⟩ := rows_good x (List.mem_of_getElem? hx)
      obtain ⟨cp1, cl1, cv1, ru1⟩ := conv_runes x.whole x.ws g3 g5 g7
      obtain ⟨cp2, cl2, cv2, ru2⟩ := conv_runes x.bare x.bs g2 (by omega) g6
      have START := Lib.hid (rowStart wr x cp1 cp2 cl1 cl2 ru1 ru2)
      have HO' := Lib.hid (show ∀ g, v.ownBlock = some g → g < wr.heap.size from fun g hg => (HO.out.lt g hg).2)
      have GX := Lib.hid g6; have GL := Lib.hid g4
      have HS := Lib.hid (show (rowsL.take (k + 1)).flatMap pairsRow = (rowsL.take k).flatMap pairsRow ++ pairsRow x by rw [take_snoc hx]; simp)
      have HPL := Lib.hid (show ((rowsL.take k).flatMap pairsRow).length ≤ 74 from by
        have := congrArg List.length (congrArg (List.flatMap pairsRow) (List.take_append_drop k rowsL))
        rw [List.flatMap_append, HR.out, HL.out, List.length_append] at this
        omega)
      generalize (rowsL.take k).flatMap pairsRow = PV at *
      go_wp2
      clear cv1 cv2 h0 h1 h2 ru1 ru2 g1 g2 g3 g6 g7 hx
      generalize wr.alloc (.cells #[.int .i32 x.mark, .string x.bare, .string x.whole] 51) = W1 at *
      generalize cp1 W1 = c1 at *
      generalize cl1 W1 = cs1 at *
      generalize W1.alloc (.cells cs1 21) = W2 at *
      generalize cp2 W2.drew = c2 at *
      generalize cl2 W2.drew = cs2 at *
      generalize (W2.alloc (.cells cs2 21)).drew.drew = W3 at *
      obtain ⟨m, hm⟩ : ∃ m, m = x.ws.length := ⟨_, rfl⟩
      rw [← hm] at g4 g5 ⊢
      have X3 := Lib.hid (HX.out.trans START.out.ext)
      have O3 := Lib.hid (HO.out.ext (keep_pair top) START.out.ext)
      clear HO HX
      obtain ⟨s0, s1, s2, s3, s4⟩ := START.out
      clear START
      rw [← hm] at s2
      rw [g4] at s3
      have PL := Lib.hid (show (pairsRow x).length ≤ m from by unfold pairsRow; rw [List.length_zipWith]; omega)
      generalize wr.heap.size = B at *
      have S1 := Lib.hid (slr_ok (ok' := fun b => v.ownBlock ≠ some b) s2 (by intro e; have := HO'.out _ e; omega))
      have S2 := Lib.hid (slr_ok (ok' := fun b => v.ownBlock ≠ some b) s3 (by intro e; have := HO'.out _ e; omega))
      have M0 := Lib.hid s1
      have NE := Lib.hid (show v.ownBlock ≠ some B from by intro e; have := HO'.out _ e; omega)
      have SZ := s4
      clear s0 s1 s2 s3 s4
      have HM := Lib.hid hm; clear hm
      go_loopw [1, 20] (fun vo vi w4 => ∃ (j : Nat) (v2 : Value), v2 = vo ∧ vi = .int .i64 j ∧ j ≤ m ∧ Hid (OwnR rPair 27 3 w1.heap.size w4 v2 (PV ++ (pairsRow x).take j)) ∧ Hid (Agree (fun b => v.ownBlock ≠ some b) W3 w4) ∧ W3.heap.size ≤ w4.heap.size ∧
        Hid (∀ g, v2.ownBlock = some g → ¬ v.ownBlock ≠ some g ∨ W3.heap.size ≤ g) ∧ Hid (Ext w1 w4)) (fun _ vi _ => m - (intOf vi).toNat)
      case atStart => exact ⟨0, v, rfl, rfl, by omega, by simpa using O3, Lib.hid (Agree.refl _ _), Nat.le_refl _, Lib.hid (fun g hg => .inl (fun h => h hg)), X3⟩
      case round =>
        clear X3 O3
        obtain ⟨j, v2, rfl, rfl, hj, OO, AG, hsz, HV, HX⟩ := hrel
        by_cases hjm : j < m
        · have gj : (j : Int) < (m : Int) := by omega
          have R1 := S1.out.keep (keep_rune _) AG.out
          have R2 := S2.out.keep (keep_rune _) AG.out
          obtain ⟨y, hy⟩ := R1.idx hjm
          obtain ⟨z, hz⟩ := R2.idx hjm
          have hpx : (pairsRow x)[j]? = some ⟨z, x.mark, y⟩ := by unfold pairsRow; rw [List.getElem?_zipWith, hz, hy]
          have HT2 := Lib.hid (take_snoc hpx)
          have c1' := R1.cellAt hy
          have c2' := R2.cellAt hz
          rw [Nat.zero_add] at c1' c2'
          have KC := Lib.hid (fun w5 (a : Agree (fun b => v.ownBlock ≠ some b) W3 w5) => show w5.cell? ⟨B, 0, none⟩ = some (.int .i32 x.mark) ∧ w5.cell? ⟨B + 1, j, none⟩ = some (.int .i32 y) from
            ⟨a.cell (a := ⟨B, 0, none⟩) NE.out M0.out, by have := (S1.out.keep (keep_rune _) a).cellAt hy; rw [Nat.zero_add] at this; exact this⟩)
          have c0' := (KC.out wr AG.out).1
          have HPR := Lib.hid (show ((pairsRow x).take j).length ≤ 12 from by simp; omega)
          have O2 := Lib.hid ((OO.out.ext (keep_pair top) (Ext.refl wr).drew).ext (keep_pair top) ((Ext.refl wr.drew).alloc (.cells #[.int .i32 z, .int .i32 x.mark, .int .i32 y] 27)))
          have X2 := Lib.hid (HX.out.drew.alloc (.cells #[.int .i32 z, .int .i32 x.mark, .int .i32 y] 27))
          have SN := Lib.hid (one_newP wr.drew ⟨z, x.mark, y⟩ 27)
          have AG2 := Lib.hid (show Agree (fun b => v.ownBlock ≠ some b) W3 (wr.drew.alloc (.cells #[.int .i32 z, .int .i32 x.mark, .int .i32 y] 27)) from
            fun b hb1 hb2 => (((Ext.refl wr).drew.alloc (.cells #[.int .i32 z, .int .i32 x.mark, .int .i32 y] 27)).block (by omega)).trans (AG.out b hb1 hb2))
          have SZ2 : W3.heap.size ≤ (wr.drew.alloc (.cells #[.int .i32 z, .int .i32 x.mark, .int .i32 y] 27)).heap.size := Nat.le_trans hsz ((Ext.refl wr).drew.alloc _).size
          have SZ3 := Lib.hid SZ2; clear SZ2
          have BL : B < wr.heap.size ∧ B ≠ wr.heap.size ∧ B + 1 < wr.heap.size ∧ B + 1 ≠ wr.heap.size ∧ B + 1 + 1 < wr.heap.size ∧ B + 1 + 1 ≠ wr.heap.size := by omega
          obtain ⟨bl1, bl2, bl3, bl4, bl5, bl6⟩ := BL
          have wj : IntKind.i64.wrap ((j : Int) + 1) = (j : Int) + 1 := IntWalk.i64_in _ (by omega)
          clear R1 R2 hy hz hpx OO AG
          go_wp2
          go_region_held3 (fun w' => w'.cell? ⟨B, 0, none⟩ = some (.int .i32 x.mark) ∧ w'.cell? ⟨B + 1, j, none⟩ = some (.int .i32 y))
            (first | go_keep | exact K3)
            (first
              | (refine step_appS T_pair (by omega) rfl (.tmp 25) (.tmp 34) rfl rfl O2.out rfl SN.out (fun _ _ h => h) one_pair (keep_pair bot) (bot_no _) ?_ X2.out.size ?_
                 · have := HPL.out; have := HPR.out; simp only [List.length_append]; omega
                 intro v3 w3 o2 g2 hat2
                 have x3 := Lib.hid (X2.out.app g2 O2.out)
                 have a3 := Lib.hid (agree_app AG2.out SZ3.out g2 HV.out)
                 have z3 : W3.heap.size ≤ w3.heap.size := Nat.le_trans SZ3.out g2.size
                 have K3 := KC.out w3 a3.out
                 rw [List.append_assoc, ← HT2.out] at o2
                 have o3 := Lib.hid o2
                 have v3' := Lib.hid (show ∀ g, v3.ownBlock = some g → ¬ v.ownBlock ≠ some g ∨ W3.heap.size ≤ g from fun g hg => by
                   rcases hat2 with e | e
                   · exact HV.out g (e ▸ hg)
                   · right; rw [← Option.some.inj (e.symm.trans hg)]; exact SZ3.out)
                 clear o2 g2 hat2))
          clear c0' c1' c2' K3
          go_wp2
          go_roundw
          case rel => exact ⟨j + 1, v3, rfl, by go_num, by omega, o3, a3, z3, v3', x3⟩
          case measure => simp [intOf]; omega
        · have gj : ¬ (j : Int) < (m : Int) := by omega
          have hO := OO.out
          have e9 : (pairsRow x).take j = pairsRow x := List.take_of_length_le (by have := PL.out; omega)
          rw [e9, ← HS.out] at hO
          have O9 := Lib.hid hO; clear hO
          have wk : IntKind.i64.wrap ((k : Int) + 1) = (k : Int) + 1 := IntWalk.i64_in _ (by omega)
          go_wp2
          exact ⟨⟨k + 1, v2, rfl, by go_num, by omega, O9, HX⟩, by simp [intOf]; omega⟩
    · have gz : ¬ (k : Int) < 11 := by omega
      have hO := HO.out
      rw [List.take_of_length_le (by rw [rows_len]; omega), HR.out] at hO
      obtain ⟨A', c', rfl, s2⟩ := hO.top
      rw [HL.out] at s2
      have S2 := Lib.hid s2
      rw [HL.out]
      clear hO s2 HO
      go_wp2
      go_ret
      exact ⟨_, _, rfl, S2.out, X1.out.trans HX.out⟩

end Go.Proofs.Ytbcmfebfcoedkaa
