/- Walks: the document's Full and Joined. -/
import Derived.Test.YtbcmfebfcoedkaaZ19
namespace Go.Proofs.Ytbcmfebfcoedkaa
open Go.RowKit
set_option linter.unusedVariables false
set_option linter.unusedSimpArgs false

theorem fw_at {k : Nat} {p : Pr} {r : Int} (h : pairsL[k]? = some p) (e : p.whole = r) : fw r = some p := by rw [← e]; exact fw_of (List.mem_of_getElem? h)
theorem fw_out {r : Int} (h : ∀ q ∈ pairsL, q.whole ≠ r) : fw r = none := List.find?_eq_none.2 fun q hq => by simpa using h q hq
theorem fullD_none {d : Nat} {r : Int} (h : fw r = none) : fullD d r = [r] := by cases d <;> simp [fullD, h]
theorem before_step {k : Nat} {p : Pr} {Q : Pr → Prop} (h : pairsL[k]? = some p) (hb : ∀ q ∈ pairsL.take k, Q q) (hp : Q p) : ∀ q ∈ pairsL.take (k + 1), Q q := by
  intro q hq
  rw [take_snoc h] at hq
  rcases List.mem_append.1 hq with hq | hq
  · exact hb q hq
  · simp at hq; subst hq; exact hp
theorem pairCells (w : World) (p : Pr) (t : TypeId) : (w.alloc (.cells #[.int .i32 p.base, .int .i32 p.mark, .int .i32 p.whole] t)).cell? ⟨w.heap.size, 0, none⟩ = some (.int .i32 p.base) ∧
    (w.alloc (.cells #[.int .i32 p.base, .int .i32 p.mark, .int .i32 p.whole] t)).cell? ⟨w.heap.size, 1, none⟩ = some (.int .i32 p.mark) ∧ (w.alloc (.cells #[.int .i32 p.base, .int .i32 p.mark, .int .i32 p.whole] t)).cell? ⟨w.heap.size, 2, none⟩ = some (.int .i32 p.whole) :=
  ⟨cell_new _ _ _ _ _ rfl, cell_new _ _ _ _ _ rfl, cell_new _ _ _ _ _ rfl⟩

/-- what a call of the document's Full leaves -/
structure RowRet (w : World) (l : List Int) (e : Ending) (w' : World) : Prop where
  ret : ∃ v, e = .returned v ∧ OwnR rRune 21 1 w.heap.size w' v l
  ext : Ext w w'

set_option maxRecDepth 1000000 in
set_option maxHeartbeats 6400000 in
theorem refFull_step (r : Int) (w : World) (F : List Int) (G : Pr → List Int) (hr : i32 r) (hnone : fw r = none → F = [r])
    (hsome : ∀ p, fw r = some p → F = G p ++ [p.mark] ∧ (G p).length ≤ 50000 ∧ ∀ W, Calls Try.prog 30 #[.int .i32 p.base] W fun e w' => RowRet W (G p) e w') :
    Calls Try.prog 30 #[.int .i32 r] w fun e w' => RowRet w F e w' := by
    have HN := Lib.hid hnone
    have HS := Lib.hid hsome
    have C := Lib.hid (refPairs_any w)
    have HL := Lib.hid pairs_len
    have HR := Lib.hid hr
    clear hr hnone hsome
    go_enter Try.func30, Try.ntmps30
    go_wp2_with (go_at_call 6; refine C.out.mono ?_; rintro e w1 ⟨A, c, rfl, ht, x1⟩)
    have HT := Lib.hid ht; clear ht
    have X1 := Lib.hid x1; clear x1
    clear C
    go_loopw [7] (fun vi wr => ∃ k : Nat, vi = .int .i64 k ∧ k ≤ 74 ∧ Hid (∀ q ∈ pairsL.take k, q.whole ≠ r) ∧ Hid (Ext w1 wr)) (fun vi _ => 74 - (intOf vi).toNat)
    case atStart => exact ⟨0, rfl, by omega, Lib.hid (fun q hq => by simp at hq), Lib.hid (Ext.refl _)⟩
    case round =>
      obtain ⟨k, rfl, hk, HB, HX⟩ := hrel
      by_cases hlt : k < 74
      · have gz : (k : Int) < 74 := by omega
        obtain ⟨p, hp⟩ : ∃ p, pairsL[k]? = some p := ⟨_, List.getElem?_eq_getElem (by rw [HL.out]; exact hlt)⟩
        have hT : Pairs wr A 74 c pairsL := SlR.ext (keep_pair top) HT.out HX.out
        obtain ⟨b, off, rfl, hbb, p0, p1, p2⟩ := hT.pair hp
        obtain ⟨n0, n1, n2⟩ := pairCells wr p 27
        have e5 := (Ext.refl wr).alloc (.cells #[.int .i32 p.base, .int .i32 p.mark, .int .i32 p.whole] 27)
        have s5 : (wr.alloc (.cells #[.int .i32 p.base, .int .i32 p.mark, .int .i32 p.whole] 27)).heap.size = wr.heap.size + 1 := by simp
        have X5 := Lib.hid (X1.out.trans (HX.out.trans e5))
        have Y5 := Lib.hid (HX.out.trans e5)
        by_cases hq : p.whole = r
        · have hf := fw_at hp hq
          obtain ⟨hF, hG, hC⟩ := HS.out p hf
          have HM := Lib.hid (pairs_i32 (fw_mem hf).1).2.1
          obtain ⟨FB, hFB⟩ : ∃ x, G p = x := ⟨_, rfl⟩
          obtain ⟨pm, hpm⟩ : ∃ q, p.mark = q := ⟨_, rfl⟩
          obtain ⟨pb, hpb⟩ : ∃ q, p.base = q := ⟨_, rfl⟩
          rw [hFB, hpm] at hF
          rw [hFB] at hG
          rw [hFB, hpb] at hC
          rw [hpm] at HM
          have HF := Lib.hid hF; have HG := Lib.hid hG; have HC := Lib.hid hC
          rw [hq, hpm, hpb] at n0 n1 n2 s5 X5
          rw [hq] at p2
          rw [hpm] at p1
          rw [hpb] at p0
          clear hF hG hC hf hq hp hT HB HS HN HX Y5 e5 hFB hpm hpb
          go_upto_region 5 with fail
          generalize wr.alloc (.cells #[.int .i32 pb, .int .i32 pm, .int .i32 r] 27) = w5 at *
          have hl1 : wr.heap.size < w5.heap.size ∧ wr.heap.size ≠ w5.heap.size := by omega
          obtain ⟨l1, l2⟩ := hl1
          have HB5 := Lib.hid X5.out.size
          generalize wr.heap.size = H at *
          clear s5 p0 p1 p2
          have N0 := Lib.hid n0; have N1 := Lib.hid n1
          have CA := Lib.hid (HC.out w5.drew)
          have CB := Lib.hid (HC.out (w5.alloc (.cells #[.int .i32 pm] 21)).drew)
          have EB := Lib.hid (((Ext.refl w5).alloc (.cells #[.int .i32 pm] 21)).drew)
          have SB := Lib.hid ((one_newR w5 pm 21 HM.out).ext (Ext.refl _).drew)
          go_region_held3 (fun w' => w'.cell? ⟨H, 0, none⟩ = some (.int .i32 pb) ∧ w'.cell? ⟨H, 1, none⟩ = some (.int .i32 pm))
            (first | go_keep | exact K3)
            (first
              | (go_at_call 30
                 (with_reducible refine CA.out.mono ?_)
                 rintro e w3 ⟨⟨v3, rfl, o3⟩, x3⟩
                 have K3 := And.intro (Ext.cell (w := w5.drew) x3 N0.out) (Ext.cell (w := w5.drew) x3 N1.out)
                 have y3 := x3.alloc (.cells #[.int .i32 pm] 21)
                 have OA := Lib.hid (o3.ext (keep_rune top) ((Ext.refl w3).alloc (.cells #[.int .i32 pm] 21)))
                 have YA := Lib.hid y3
                 have SA := Lib.hid (one_newR w3 pm 21 HM.out)
                 clear o3 x3 y3)
              | (go_at_call 30
                 (with_reducible refine CB.out.mono ?_)
                 rintro e w3 ⟨⟨v3, rfl, o3⟩, x3⟩
                 have K3 := And.intro ((EB.out.trans x3).cell N0.out) ((EB.out.trans x3).cell N1.out)
                 have OB := Lib.hid o3
                 have YB := Lib.hid x3
                 have SB3 := Lib.hid (SB.out.ext x3)
                 clear o3 x3)
              | (refine step_appS T_rune (by omega) rfl (.tmp 17) (.tmp 20) rfl rfl OA.out rfl SA.out (fun _ _ h => h) one_rune (keep_rune bot) (bot_no _) ?_ YA.out.size ?_
                 · have := HG.out; omega
                 intro v4 w4 o4 g4 hat4
                 have x4 := YA.out.app g4 OA.out
                 have K3 := And.intro (Ext.cell (w := w5.drew) x4 N0.out) (Ext.cell (w := w5.drew) x4 N1.out)
                 have O4 := Lib.hid (o4.mono HB5.out)
                 have X4 := Lib.hid ((X5.out.trans (Ext.refl w5).drew).trans x4)
                 clear o4 g4 hat4 x4)
              | (refine step_appS T_rune (by omega) rfl (.tmp 17) (.tmp 20) rfl rfl OB.out rfl SB3.out (fun _ _ h => h) one_rune (keep_rune bot) (bot_no _) ?_ YB.out.size ?_
                 · have := HG.out; omega
                 intro v4 w4 o4 g4 hat4
                 have x4 := EB.out.trans (YB.out.app g4 OB.out)
                 have K3 := And.intro (x4.cell N0.out) (x4.cell N1.out)
                 have O4 := Lib.hid (o4.mono (Nat.le_trans HB5.out EB.out.size))
                 have X4 := Lib.hid (X5.out.trans x4)
                 clear o4 g4 hat4 x4)
              | fail)
          all_goals
            clear K3 n0 n1 n2
            go_wp2
            go_ret
            rw [HF.out]
            exact ⟨⟨v4, rfl, O4.out⟩, X4.out⟩
        · have hd : (p.whole == r) = false := by simpa using hq
          have HB2 := Lib.hid (before_step hp HB.out hq)
          clear hp hT
          go_wp2
          go_roundw
          case rel => exact ⟨k + 1, by go_num, by omega, HB2, Y5⟩
          case measure => simp [intOf]; omega
      · have gz : ¬ (k : Int) < 74 := by omega
        have hB := HB.out
        rw [List.take_of_length_le (by rw [HL.out]; omega)] at hB
        have HF := Lib.hid (HN.out (fw_out hB))
        have OF := Lib.hid (show OwnR rRune 21 1 w.heap.size (wr.alloc (.cells #[.int .i32 r] 21)) (.slice (some ⟨wr.heap.size, 0, none⟩) 1 1) [r] from
          OwnR.fresh (l := [r]) (cs := [.int .i32 r]) (X1.out.trans HX.out).size (by unfold maxLen; simp) (Enc.sing rfl ⟨rfl, HR.out⟩))
        have XF := Lib.hid ((X1.out.trans HX.out).alloc (.cells #[.int .i32 r] 21))
        clear hB
        go_wp2
        go_ret
        rw [HF.out]
        exact ⟨⟨_, rfl, OF.out⟩, XF.out⟩

theorem refFull_any : ∀ (d : Nat) (r : Int) (w : World), d ≤ 10 → lvl d r = true → i32 r → Calls Try.prog 30 #[.int .i32 r] w fun e w' => RowRet w (fullD d r) e w'
  | 0, r, w, _, hl, hr => refFull_step r w _ (fun _ => []) hr (fun _ => rfl) fun p hp => by simp [lvl, hp] at hl
  | d + 1, r, w, hd, hl, hr => refFull_step r w _ (fun p => fullD d p.base) hr (fun h => by simp [fullD, h]) fun p hp =>
    ⟨by simp [fullD, hp], by have := fullD_len d p.base; omega, fun W => refFull_any d p.base W (by omega) (by simpa [lvl, hp] using hl) (pairs_i32 (fw_mem hp).1).1⟩

/-- a letter and a mark, or -1 -/
def joinI (a b : Int) : Int := match fj a b with | some p => p.whole | none => -1
theorem joinI_at {k : Nat} {p : Pr} {a b : Int} (h : pairsL[k]? = some p) (e : p.base = a) (e' : p.mark = b) : joinI a b = p.whole := by
  unfold joinI; rw [← e, ← e', fj_of (List.mem_of_getElem? h)]
theorem joinI_out {a b : Int} (h : ∀ q ∈ pairsL, ¬ (q.base = a ∧ q.mark = b)) : joinI a b = -1 := by
  have : fj a b = none := List.find?_eq_none.2 fun q hq => by simpa using h q hq
  unfold joinI; rw [this]
theorem joinI_i32 (a b : Int) : i32 (joinI a b) := by
  unfold joinI
  cases h : fj a b with
  | none => exact ⟨by decide, by decide⟩
  | some p => exact (pairs_i32 (fj_mem h).1).2.2

set_option maxRecDepth 1000000 in
set_option maxHeartbeats 6400000 in
theorem Joined_any (a b : Int) (w : World) : Calls Try.prog 31 #[.int .i32 a, .int .i32 b] w fun e w' => e = .returned (.int .i32 (joinI a b)) ∧ Ext w w' := by
  have C := Lib.hid (refPairs_any w)
  have HL := Lib.hid pairs_len
  go_enter Try.func31, Try.ntmps31
  go_wp2_with (go_at_call 6; refine C.out.mono ?_; rintro e w1 ⟨A, c, rfl, ht, x1⟩)
  have HT := Lib.hid ht; clear ht
  have X1 := Lib.hid x1; clear x1
  clear C
  go_loopw [9] (fun vi wr => ∃ k : Nat, vi = .int .i64 k ∧ k ≤ 74 ∧ Hid (∀ q ∈ pairsL.take k, ¬ (q.base = a ∧ q.mark = b)) ∧ Hid (Ext w1 wr)) (fun vi _ => 74 - (intOf vi).toNat)
  case atStart => exact ⟨0, rfl, by omega, Lib.hid (fun q hq => by simp at hq), Lib.hid (Ext.refl _)⟩
  case round =>
    obtain ⟨k, rfl, hk, HB, HX⟩ := hrel
    by_cases hlt : k < 74
    · have gz : (k : Int) < 74 := by omega
      obtain ⟨p, hp⟩ : ∃ p, pairsL[k]? = some p := ⟨_, List.getElem?_eq_getElem (by rw [HL.out]; exact hlt)⟩
      have hT : Pairs wr A 74 c pairsL := SlR.ext (keep_pair top) HT.out HX.out
      obtain ⟨bb, off, rfl, hbb, p0, p1, p2⟩ := hT.pair hp
      have Y5 := Lib.hid (HX.out.alloc (.cells #[.int .i32 p.base, .int .i32 p.mark, .int .i32 p.whole] 27))
      have HP := Lib.hid hp
      clear hp hT
      by_cases h1 : p.base = a
      · have q1 : (p.base == a) = true := by simp [h1]
        by_cases h2 : p.mark = b
        · have q2 : (p.mark == b) = true := by simp [h2]
          have HJ := Lib.hid (joinI_at HP.out h1 h2)
          clear h1 h2
          go_wp2
          go_ret
          rw [HJ.out]
          exact ⟨rfl, X1.out.trans Y5.out⟩
        · have q2 : (p.mark == b) = false := by simp [h2]
          have HB2 := Lib.hid (before_step HP.out HB.out (fun h => h2 h.2))
          clear h1 h2
          go_wp2
          go_roundw
          case rel => exact ⟨k + 1, by go_num, by omega, HB2, Y5⟩
          case measure => simp [intOf]; omega
      · have q1 : (p.base == a) = false := by simp [h1]
        have HB2 := Lib.hid (before_step HP.out HB.out (fun h => h1 h.1))
        clear h1
        go_wp2
        go_roundw
        case rel => exact ⟨k + 1, by go_num, by omega, HB2, Y5⟩
        case measure => simp [intOf]; omega
    · have gz : ¬ (k : Int) < 74 := by omega
      have hB := HB.out
      rw [List.take_of_length_le (by rw [HL.out]; omega)] at hB
      have HJ := Lib.hid (joinI_out hB)
      clear hB
      go_wp2
      go_ret
      rw [HJ.out]
      exact ⟨rfl, X1.out.trans HX.out⟩

end Go.Proofs.Ytbcmfebfcoedkaa
