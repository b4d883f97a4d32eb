/- Plain and walk: order.Sort. -/
import Derived.Test.YtbcmfebfcoedkaaZ36
namespace Go.Proofs.Ytbcmfebfcoedkaa
open Go.RowKit Go.Sort
set_option linter.unusedVariables false
set_option linter.unusedSimpArgs false

/-! ### plain -/
def firstBad (l : List (List Int)) : Nat := (l.takeWhile fun t => apartE t == 0).length
def sortE (l : List (List Int)) : Int := if 100 < l.length then 5 else if firstBad l < l.length then apartE (l.getD (firstBad l) []) else 0
def sortA (l : List (List Int)) : Int := if 100 < l.length then 0 else if firstBad l < l.length then firstBad l else 0
def sortV (l : List (List Int)) : List Int := if 100 < l.length then [] else if firstBad l < l.length then [] else isort (ltC (cfL l)) (idxs l.length)
theorem sort_many {l : List (List Int)} (h : 100 < l.length) : sortE l = 5 ∧ sortA l = 0 ∧ sortV l = [] := by
  unfold sortE sortA sortV; rw [if_pos h, if_pos h, if_pos h]; exact ⟨rfl, rfl, rfl⟩
theorem firstBad_at : ∀ {l : List (List Int)} {k : Nat} {t : List Int}, (∀ u ∈ l.take k, apartE u = 0) → l[k]? = some t → apartE t ≠ 0 → firstBad l = k
  | [], k, t, _, hk, _ => by simp at hk
  | u :: l, 0, t, _, hk, hb => by
    simp at hk; subst hk
    unfold firstBad
    rw [List.takeWhile_cons, if_neg (by simpa using hb)]; rfl
  | u :: l, k + 1, t, ha, hk, hb => by
    have h0 := ha u (by simp)
    have := firstBad_at (l := l) (k := k) (t := t) (fun v hv => ha v (by simp [hv])) (by simpa using hk) hb
    unfold firstBad at *
    rw [List.takeWhile_cons, if_pos (by simpa using h0), List.length_cons, this]
theorem firstBad_all : ∀ {l : List (List Int)}, (∀ u ∈ l, apartE u = 0) → firstBad l = l.length
  | [], _ => rfl
  | u :: l, ha => by
    have h0 := ha u (by simp)
    have := firstBad_all (l := l) (fun v hv => ha v (by simp [hv]))
    unfold firstBad at *
    rw [List.takeWhile_cons, if_pos (by simpa using h0), List.length_cons, this]; rfl
theorem sort_bad {l : List (List Int)} {k : Nat} {t : List Int} (h : ¬ 100 < l.length) (ha : ∀ u ∈ l.take k, apartE u = 0) (hk : l[k]? = some t) (hb : apartE t ≠ 0) : sortE l = apartE t ∧ sortA l = k ∧ sortV l = [] := by
  have hf := firstBad_at ha hk hb
  have hl := lt_of_get hk
  unfold sortE sortA sortV
  rw [hf, if_neg h, if_neg h, if_neg h, if_pos hl, if_pos hl, if_pos hl, List.getD_eq_getElem?_getD, hk]
  exact ⟨rfl, rfl, rfl⟩
theorem sort_good {l : List (List Int)} (h : ¬ 100 < l.length) (ha : ∀ u ∈ l, apartE u = 0) : sortE l = 0 ∧ sortA l = 0 ∧ sortV l = isort (ltC (cfL l)) (idxs l.length) := by
  have hf := firstBad_all ha
  unfold sortE sortA sortV
  rw [hf, if_neg h, if_neg h, if_neg h, if_neg (by omega), if_neg (by omega), if_neg (by omega)]
  exact ⟨rfl, rfl, rfl⟩
theorem all_snoc {l : List (List Int)} {k : Nat} {t : List Int} (ha : ∀ u ∈ l.take k, apartE u = 0) (hk : l[k]? = some t) (ht : apartE t = 0) : ∀ u ∈ l.take (k + 1), apartE u = 0 := fun u hu => by
  rw [take_snoc hk] at hu
  simp only [List.mem_append, List.mem_singleton] at hu
  rcases hu with h | rfl
  · exact ha u h
  · exact ht
theorem isort_mem (l : List (List Int)) {L : List Int} {x : Int} (h : x ∈ isort (ltC (cfL l)) L) : x ∈ L := ((isort_both (clL l).ord L).2.symm).mem (clL l).ord h

/-! ### the variable of a fault -/
structure CellF (B : Nat) (w : World) (a b : Value) : Prop where
  c0 : w.cell? ⟨B, 0, none⟩ = some a
  c1 : w.cell? ⟨B, 1, none⟩ = some b
  fz : ∀ i, w.frozen? ⟨B, i, none⟩ = false
  lt : B < w.heap.size ∧ B ≠ w.heap.size
theorem CellF.ext {B : Nat} {w w' : World} {a b : Value} (h : CellF B w a b) (e : Ext w w') : CellF B w' a b :=
  ⟨e.cell h.c0, e.cell h.c1, fun i => (e.frozen (a := ⟨B, i, none⟩) h.lt.1).trans (h.fz i), by have := e.size; have := h.lt; omega⟩
theorem cellF_new (w : World) (a b : Value) (t : TypeId) : CellF w.heap.size (w.alloc (.cells #[a, b] t)) a b :=
  ⟨cell_new _ _ _ _ _ rfl, cell_new _ _ _ _ _ rfl, (Wr.new w #[a, b] t).2, by simp⟩

/-- what a call of Sort leaves -/
structure SortR (w : World) (er at' : Int) (V : List Int) (e : Ending) (w' : World) : Prop where
  ret : ∃ A c, e = .returned (.tuple #[.slice A V.length c, .agg #[.int .i64 er, .int .i64 at']]) ∧ Ints w' A V.length c V
  ext : Ext w w'

set_option maxRecDepth 1000000 in
set_option maxHeartbeats 6400000 in
theorem Sort_any (A : Option Addr) (n c : Nat) (l : List (List Int)) (w : World) (hT : Texts w A n c l) :
    Calls Try.prog 21 #[.slice A n c] w fun e w' => SortR w (sortE l) (sortA l) (sortV l) e w' := by
  have hcap := hT.cap
  have hmx := hT.max; unfold maxLen at hmx
  have hlen := hT.len
  have e1 := (Ext.refl w).alloc (.cells #[.slice A n c] 33)
  have e2 := (Ext.refl (w.alloc (.cells #[.slice A n c] 33))).alloc (.cells #[.int .i64 0, .int .i64 0] 44)
  have b1 := e2.cell (cell_new w #[.slice A n c] 33 0 (.slice A n c) rfl)
  have z1 : (w.alloc (.cells #[.slice A n c] 33)).heap.size = w.heap.size + 1 := by simp
  have f1 := cellF_new (w.alloc (.cells #[.slice A n c] 33)) (.int .i64 0) (.int .i64 0) 44
  rw [z1] at f1
  have X0 := Lib.hid (e1.trans e2); have BX := Lib.hid b1; have FC := Lib.hid f1
  have HT := Lib.hid (hT.ext X0.out)
  have HH := Lib.hid (show w.heap.size ≤ w.heap.size + 1 by omega)
  clear e1 e2 b1 z1 f1 hT
  go_enter Try.func21, Try.ntmps21
  go_upto_region 1 with fail
  generalize (w.alloc (.cells #[.slice A n c] 33)).alloc (.cells #[.int .i64 0, .int .i64 0] 44) = w0 at *
  obtain ⟨B, hB⟩ : ∃ B, B = w.heap.size + 1 := ⟨_, rfl⟩
  rw [← hB] at FC HH ⊢
  clear hB
  obtain ⟨H, hH⟩ : ∃ H, H = w.heap.size := ⟨_, rfl⟩
  rw [← hH] at BX ⊢
  clear hH
  have hfc := FC.out.c0
  by_cases hn : 100 < n
  · have gn : (100 : Int) < (n : Int) := by omega
    have bx := BX.out
    have F0 := FC.out.c0; have F1 := FC.out.c1; have FZ := FC.out.fz
    obtain ⟨h1, h2, h3⟩ := sort_many (l := l) (by omega)
    have HS := Lib.hid (And.intro h1 (And.intro h2 h3))
    clear h1 h2 h3
    go_wp2
    refine bodyPost_ret (v := .tuple #[.slice none 0 0, .agg #[.int .i64 5, .int .i64 0]]) (by simp [results, Try.results21, go_sem, F0, F1, FZ]) rfl ?_
    rw [HS.out.1, HS.out.2.1, HS.out.2.2]
    exact ⟨⟨none, 0, rfl, SlR.nil _ _ _ _ _ _ (by unfold maxLen; omega)⟩, ext_set (ext_set X0.out HH.out _ _) HH.out _ _⟩
  · have gn : ¬ (100 : Int) < (n : Int) := by omega
    have bx := BX.out
    have HL := Lib.hid hlen
    clear hlen hfc
    go_wp2
    have KY := Lib.hid (fun A n c t W h => Key_any A n c t W h)
    go_loopw [4, 17] (fun vo vi wr => ∃ (k : Nat) (v : Value), vi = .int .i64 k ∧ v = vo ∧ k ≤ n ∧ Hid (OwnR rInt 3 1 w0.heap.size wr v (idxs k)) ∧ Hid (∀ u ∈ l.take k, apartE u = 0) ∧ Hid (Ext w0 wr)) (fun _ vi _ => n - (intOf vi).toNat)
    case atStart => exact ⟨0, _, rfl, rfl, by omega, Lib.hid (OwnR.nil _ _ _ _ _), Lib.hid (by simp), Lib.hid (Ext.refl _)⟩
    case round =>
      obtain ⟨k, v, rfl, rfl, hk, HO, HA, HX⟩ := hrel
      by_cases hlt : k < n
      · have gz : (k : Int) < (n : Int) := by omega
        have hTr := HT.out.ext HX.out
        obtain ⟨t, ht⟩ := hTr.idx hlt
        obtain ⟨b, off, At, nt, ct, rfl, hlt1, k1, s1⟩ := hTr.sl ht
        have C := Lib.hid (KY.out At nt ct t wr s1)
        have HTK := Lib.hid ht
        clear hTr s1 ht bx
        by_cases he : apartE t = 0
        · have HE := Lib.hid (all_snoc HA.out HTK.out he)
          rw [he] at C
          have S5 := Lib.hid (fun W => one_newI W (k : Int) 3 ⟨by omega, by omega⟩)
          have HF := Lib.hid (idxs_len k)
          clear he HA HTK
          go_wp2_with (first
            | (go_at_call 16; ((with_reducible refine C.out.mono ?_); rintro _ w4 ⟨⟨A1, p1, A2, p2, A3, p3, rfl, -, -, -⟩, x4⟩; have e5 := x4.alloc (.cells #[.int .i64 (k : Int)] 3); have O5 := Lib.hid (HO.out.ext (keep_int top) e5); have X5 := Lib.hid (HX.out.trans e5); have S6 := Lib.hid (S5.out w4); clear e5 x4))
            | (refine wpList_appS T_int (by omega) rfl (.tmp 34) (.tmp 36) rfl rfl O5.out rfl S6.out (fun _ _ h => h) one_int (keep_int bot) (bot_no _) (by have := HF.out; omega) X5.out.size ?_; intro v6 w6 o6 g6 hat6; have X6 := Lib.hid (X5.out.app g6 O5.out); have O6 := Lib.hid o6; clear o6 g6 hat6))
          go_roundw
          case rel => exact ⟨k + 1, v6, by go_num, rfl, by omega, by rw [idxs_snoc]; exact O6, HE, X6⟩
          case measure => simp [intOf]; omega
        · obtain ⟨h1, h2, h3⟩ := sort_bad (l := l) (by rw [HL.out]; omega) HA.out HTK.out he
          have HS := Lib.hid (And.intro h1 (And.intro h2 h3))
          have hne : (apartE t != 0) = true := by simpa using he
          clear h1 h2 h3 he HA HTK
          generalize apartE t = er at *
          go_wp2_with (first
            | (go_at_call 16; ((with_reducible refine C.out.mono ?_); rintro _ w4 ⟨⟨A1, p1, A2, p2, A3, p3, rfl, -, -, -⟩, x4⟩; have X4 := Lib.hid (HX.out.trans x4); have FC4 := FC.out.ext X4.out; have F0 := FC4.c0; have F1 := FC4.c1; have FZ := FC4.fz; clear FC4 x4)))
          refine bodyPost_ret (v := .tuple #[.slice none 0 0, .agg #[.int .i64 er, .int .i64 k]]) (by simp [results, Try.results21, go_sem, F0, F1, FZ]) rfl ?_
          rw [HS.out.1, HS.out.2.1, HS.out.2.2]
          exact ⟨⟨none, 0, rfl, SlR.nil _ _ _ _ _ _ (by unfold maxLen; omega)⟩, ext_set (ext_set (X0.out.trans X4.out) HH.out _ _) HH.out _ _⟩
      · have gz : ¬ (k : Int) < (n : Int) := by omega
        have ek : k = n := by omega
        subst ek
        have hall : ∀ u ∈ l, apartE u = 0 := by have := HA.out; rwa [take_all HL.out (Nat.le_refl _)] at this
        obtain ⟨h1, h2, h3⟩ := sort_good (l := l) (by rw [HL.out]; omega) hall
        rw [HL.out] at h3
        have HS := Lib.hid (And.intro h1 (And.intro h2 h3))
        have FCr := FC.out.ext HX.out
        have hmf : ∀ (fn : Fn) (first cap : Array Value) (w : World), (Instr.makeFunc fn first cap).run Try.prog w = .ok (.func fn first cap) w := fun _ _ _ _ => rfl
        rcases own_holdsI HO.out with ⟨hnil, rfl⟩ | ⟨g, cap, rfl, hg1, hg2, hh, hc1, hc2⟩
        · have h0 : k = 0 := by have := idxs_len k; rw [hnil] at this; simpa using this.symm
          subst h0
          have F0 := FCr.c0; have F1 := FCr.c1; have FZ := FCr.fz
          have C := Lib.hid (fun f W => SortStable_none f W)
          clear h1 h2 h3 hall FCr HA KY hnil bx
          go_wp2_with (go_at_call 38; ((with_reducible refine (C.out _ _).mono ?_); rintro _ w4 ⟨rfl, rfl⟩))
          refine bodyPost_ret (v := .tuple #[.slice none 0 0, .agg #[.int .i64 0, .int .i64 0]]) (by simp [results, Try.results21, go_sem, F0, F1, FZ]) rfl ?_
          rw [HS.out.1, HS.out.2.1, HS.out.2.2]
          exact ⟨⟨none, 0, rfl, SlR.nil _ _ _ _ _ _ (by unfold maxLen; omega)⟩, ext_set (ext_set (X0.out.trans HX.out) HH.out _ _) HH.out _ _⟩
        · have hli := idxs_len k
          rw [hli] at hc1 ⊢
          have C := Lib.hid (SortStable_i 39 #[.pointer (some ⟨H, 0, none⟩)] (cfL l) (clL l).ord wr g 0 k cap (idxs k) (fun x => 0 ≤ x ∧ x < k) (enters Try.func39 (by kernel_rfl) rfl)
            (sortAt_cmp HX.out hg1 BX.out HT.out hall) (by omega) (idxs k) wr (SE.start hh hg2 (fun x hx => idxs_mem hx)) hli)
          have HOW := Lib.hid (fun (w' : World) (hx : Ext (putRow (Value.int .i64) wr g 0 (isort (ltC (cfL l)) (idxs k)).toArray) w') =>
            show SlR rInt 1 (fun b => w0.heap.size ≤ b) w' (some ⟨g, 0, none⟩) (isort (ltC (cfL l)) (idxs k)).length cap (isort (ltC (cfL l)) (idxs k)) from by
              have := holds_ownI (l' := isort (ltC (cfL l)) (idxs k)) (w' := w') HO.out (by rw [hli]) (isort_len (clL l).ord _) (fun r hr => by have := idxs_mem (isort_mem l hr); exact ⟨by omega, by omega⟩) hx
              obtain ⟨A', c', e', hs⟩ := this.sl
              injection e' with e1 e2 e3
              subst e1 e3
              exact hs)
          have HPX := Lib.hid (ext_put (k := .i64) (off := 0) HX.out hg1 (isort (ltC (cfL l)) (idxs k)).toArray)
          have HLI := Lib.hid (isort_len (clL l).ord (idxs k))
          rw [hli] at HLI
          clear h1 h2 h3 hall FCr HA KY hh hli bx HT
          generalize isort (ltC (cfL l)) (idxs k) = Z at *
          go_wp2_with (go_at_call 38; ((with_reducible refine C.out.mono ?_); rintro _ w4 ⟨rfl, k4⟩; have X4 := Lib.hid (HPX.out.trans k4.ext); have FC4 := FC.out.ext X4.out; have F0 := FC4.c0; have F1 := FC4.c1; have FZ := FC4.fz; have R4 := Lib.hid (HOW.out w4 k4.ext); clear FC4 k4))
          refine bodyPost_ret (v := .tuple #[.slice (some ⟨g, 0, none⟩) k cap, .agg #[.int .i64 0, .int .i64 0]]) (by simp [results, Try.results21, go_sem, F0, F1, FZ]) rfl ?_
          rw [HS.out.1, HS.out.2.1, HS.out.2.2]
          have hBw := FC.out.lt.1
          exact ⟨⟨_, cap, by rw [HLI.out], (R4.out.keep (keep_int _) (fun b hb _ => (heap_setB (by omega)).trans (heap_setB (by omega)))).mono (fun _ _ h => h) (fun _ _ => trivial)⟩, ext_set (ext_set (X0.out.trans X4.out) HH.out _ _) HH.out _ _⟩

end Go.Proofs.Ytbcmfebfcoedkaa
