/- Walk: what is told of pieces, by the document. -/
import Derived.Test.YtfdkbhbnldcbmaaW65
import Derived.Test.YtfdkbhbnldcbmaaW66
namespace Go.Proofs.Ytfdkbhbnldcbmaa
open Go.RowKit
set_option linter.unusedVariables false
set_option linter.unusedSimpArgs false

/-- the document's state in a block of its own -/
structure TxAt (b : Nat) (tk : Nat → Prop) (w : World) (X : Option Addr) (m d : Nat) (t : List Int) (a st : Nat) : Prop where
  text : SlR rRune 1 (fun k => k ≠ b ∧ tk k) w X m d t
  c0 : w.cell? ⟨b, 0, none⟩ = some (.slice X m d)
  c1 : w.cell? ⟨b, 1, none⟩ = some (.int .i64 a)
  c2 : w.cell? ⟨b, 2, none⟩ = some (.int .i64 st)
  wr : Wr w b
section
variable {b : Nat} {tk tk' : Nat → Prop} {w w' : World} {X : Option Addr} {m d : Nat} {t : List Int} {a st : Nat}
theorem TxAt.ext (h : TxAt b tk w X m d t a st) (e : Ext w w') : TxAt b tk w' X m d t a st := ⟨h.text.ext (keep_rune _) e, e.cell h.c0, e.cell h.c1, e.cell h.c2, h.wr.ext e⟩
theorem TxAt.mono (h : TxAt b tk w X m d t a st) (hk : ∀ k, tk k → tk' k) : TxAt b tk' w X m d t a st := ⟨h.text.mono (fun _ _ h => h) (fun k h => ⟨h.1, hk k h.2⟩), h.c0, h.c1, h.c2, h.wr⟩
theorem TxAt.runes (h : TxAt b tk w X m d t a st) : Runes w X m d t := h.text.mono (fun _ _ h => h) (fun _ _ => trivial)
theorem TxAt.set (h : TxAt b tk w X m d t a st) {Y : Option Addr} {k e : Nat} {y : List Int} (hs : SlR rRune 1 (fun i => i ≠ b ∧ tk' i) w Y k e y) : TxAt b tk' (w.setCell ⟨b, 0, none⟩ (.slice Y k e)) Y k e y a st :=
  ⟨hs.keep (keep_rune _) ((agree_set _ _ _ _).mono fun _ h => h.1), set_same h.c0, set_other h.c1 (by omega), set_other h.c2 (by omega), h.wr.set _ _⟩
theorem TxAt.set3 (h : TxAt b tk w X m d t a st) {Y : Option Addr} {k e : Nat} {y : List Int} (hs : SlR rRune 1 (fun i => i ≠ b ∧ tk' i) w Y k e y) {p q : Int} {a' st' : Nat} (hp : p = (a' : Nat)) (hq : q = (st' : Nat)) :
    TxAt b tk' (((w.setCell ⟨b, 0, none⟩ (.slice Y k e)).setCell ⟨b, 1, none⟩ (.int .i64 p)).setCell ⟨b, 2, none⟩ (.int .i64 q)) Y k e y a' st' := by
  subst hp; subst hq
  exact ⟨((hs.keep (keep_rune _) ((agree_set _ _ _ _).mono fun _ h => h.1)).keep (keep_rune _) ((agree_set _ _ _ _).mono fun _ h => h.1)).keep (keep_rune _) ((agree_set _ _ _ _).mono fun _ h => h.1),
    set_other (set_other (set_same h.c0) (by omega)) (by omega), set_other (set_same (set_other h.c1 (by omega))) (by omega), set_same (set_other (set_other h.c2 (by omega)) (by omega)), ((h.wr.set _ _).set _ _).set _ _⟩
theorem TxAt.here (h : TxAt b tk w X m d t a st) : TxAt b (fun k => tk k ∧ k < w.heap.size) w X m d t a st :=
  ⟨(SlR.lt (by omega) h.text).mono (fun _ _ h => h) (fun k h => ⟨h.1.1, h.1.2, h.2⟩), h.c0, h.c1, h.c2, h.wr⟩
theorem TxAt.app {row : Option Nat} (h : TxAt b tk w X m d t a st) (hg : w.grownBy w' row) (hr : row ≠ some b) (ht : ∀ g, row = some g → ¬ tk g) : TxAt b tk w' X m d t a st := by
  have hc : ∀ {o : Nat} {u : Value}, w.cell? ⟨b, o, none⟩ = some u → w'.cell? ⟨b, o, none⟩ = some u := fun {o u} hu => (hg.cell_far ⟨b, o, none⟩ h.wr.1 (fun e => hr e.symm)).trans hu
  exact ⟨h.text.keep (keep_rune _) (grown_agree hg fun g e hk => ht g e hk.2), hc h.c0, hc h.c1, hc h.c2,
    Nat.lt_of_lt_of_le h.wr.1 hg.size, fun i => (hg.frozen_far ⟨b, i, none⟩ h.wr.1 (fun e => hr e.symm)).trans (h.wr.2 i)⟩
end

section
variable (A : Option Addr) (n c : Nat) (l : List Rule) (T : Option Addr) (k e : Nat) (cs : List (List Int)) (w : World) (h : Rules w A n c l) (hT : Texts w T k e cs)
set_option maxRecDepth 100000 in
set_option maxHeartbeats 4000000 in
include h in
theorem refFeed_bad (en : Bool) (hr : (wrongRules l).1 ≠ 0) :
    Calls Try.prog 43 #[.slice A n c, .slice T k e, .bool en] w fun x w' => x = .returned (.tuple #[.slice none 0 0, .int .i64 0, .agg #[.int .i64 (wrongRules l).1, .int .i64 (wrongRules l).2]]) ∧ Ext w w' := by
  have e1 := (Ext.refl w).alloc (.cells #[.int .i64 0, .int .i64 0] 38)
  have k0 : (w.alloc (.cells #[.int .i64 0, .int .i64 0] 38)).cell? ⟨w.heap.size, 0, none⟩ = some (.int .i64 0) := by simp
  have k1 : (w.alloc (.cells #[.int .i64 0, .int .i64 0] 38)).cell? ⟨w.heap.size, 1, none⟩ = some (.int .i64 0) := by simp
  have wa := Wr.new w #[.int .i64 0, .int .i64 0] 38
  have HC := Lib.hid (refWrongs_any A n c l _ (h.ext e1))
  generalize hW1 : w.alloc (.cells #[.int .i64 0, .int .i64 0] 38) = w1 at *
  have HW1 := Lib.hid hW1; clear hW1
  have hr' : ((wrongRules l).1 != 0) = true := by simpa using hr
  clear hr
  generalize (wrongRules l).1 = p1 at *
  generalize (wrongRules l).2 = p2 at *
  go_enter Try.func43, Try.ntmps43
  go_wp2_with fail
  rw [HW1.out]
  go_wp2_with (go_at_call 32; refine HC.out.mono ?_; rintro e w2 ⟨rfl, hx2⟩; have x12 := hx2.alloc (.cells #[.int .i64 p1, .int .i64 p2] 38); have v0 := x12.cell k0; have v1 := x12.cell k1; have va := (wa.ext x12).2; have n1 := Nat.ne_of_lt (wa.lt hx2); have n3 := n1.symm)
  go_region
  go_wp2
  refine bodyPost_ret (v := .tuple #[.slice none 0 0, .int .i64 0, .agg #[.int .i64 p1, .int .i64 p2]]) (by simp [results, Try.results43, go_sem, v0, v1]) rfl ?_
  exact ⟨rfl, by refine Ext.drew ?_; repeat (first | exact e1.trans x12 | refine ext_set ?_ (by omega) _ _)⟩

set_option maxRecDepth 100000 in
set_option maxHeartbeats 4000000 in
include h in
theorem refFeed_many (en : Bool) (hr : (wrongRules l).1 = 0) (hk : 200 < k) :
    Calls Try.prog 43 #[.slice A n c, .slice T k e, .bool en] w fun x w' => x = .returned (.tuple #[.slice none 0 0, .int .i64 0, .agg #[.int .i64 5, .int .i64 0]]) ∧ Ext w w' := by
  have e1 := (Ext.refl w).alloc (.cells #[.int .i64 0, .int .i64 0] 38)
  have k0 : (w.alloc (.cells #[.int .i64 0, .int .i64 0] 38)).cell? ⟨w.heap.size, 0, none⟩ = some (.int .i64 0) := by simp
  have k1 : (w.alloc (.cells #[.int .i64 0, .int .i64 0] 38)).cell? ⟨w.heap.size, 1, none⟩ = some (.int .i64 0) := by simp
  have wa := Wr.new w #[.int .i64 0, .int .i64 0] 38
  have HC := Lib.hid (refWrongs_any A n c l _ (h.ext e1))
  generalize hW1 : w.alloc (.cells #[.int .i64 0, .int .i64 0] 38) = w1 at *
  have HW1 := Lib.hid hW1; clear hW1
  rw [(wrongRules_zero hr).1] at HC
  have hk' : (200 : Int) < (k : Int) := by omega
  clear hr
  go_enter Try.func43, Try.ntmps43
  go_wp2_with fail
  rw [HW1.out]
  go_wp2_with (go_at_call 32; refine HC.out.mono ?_; rintro e w2 ⟨rfl, hx2⟩; have x12 := hx2.alloc (.cells #[.int .i64 0, .int .i64 0] 38); have v0 := x12.cell k0; have v1 := x12.cell k1; have va := (wa.ext x12).2; have n1 := Nat.ne_of_lt (wa.lt hx2); have n3 := n1.symm)
  refine bodyPost_ret (v := .tuple #[.slice none 0 0, .int .i64 0, .agg #[.int .i64 5, .int .i64 0]]) (by simp [results, Try.results43, go_sem, v0, v1]) rfl ?_
  exact ⟨rfl, by repeat (first | exact e1.trans x12 | refine ext_set ?_ (by omega) _ _)⟩

-- FROM HERE BY gw67.py
/-- what the document's Feed hands back, with an end -/
def RFeedV (l : List Rule) (cs : List (List Int)) (w' : World) (x : Ending) : Prop :=
  ∃ A c y, x = .returned (.tuple #[.slice A (feedO l cs).length c, .int .i64 y, .agg #[.int .i64 (feedF l cs).1, .int .i64 (feedF l cs).2]]) ∧ Texts w' A (feedO l cs).length c (feedO l cs)
set_option maxRecDepth 100000 in
set_option maxHeartbeats 8000000 in
include h hT in
theorem refFeed_false (hr : (wrongRules l).1 = 0) (hk : ¬ 200 < k) :
    Calls Try.prog 43 #[.slice A n c, .slice T k e, .bool false] w fun x w' => x = .returned (.tuple #[.slice none 0 0, .int .i64 (waitN l cs), .agg #[.int .i64 (waitF l cs).1, .int .i64 (waitF l cs).2]]) ∧ Ext w w' := by
  have e1 := (Ext.refl w).alloc (.cells #[.int .i64 0, .int .i64 0] 38)
  have k0 : (w.alloc (.cells #[.int .i64 0, .int .i64 0] 38)).cell? ⟨w.heap.size, 0, none⟩ = some (.int .i64 0) := by simp
  have k1 : (w.alloc (.cells #[.int .i64 0, .int .i64 0] 38)).cell? ⟨w.heap.size, 1, none⟩ = some (.int .i64 0) := by simp
  have wa := Wr.new w #[.int .i64 0, .int .i64 0] 38
  have HC := Lib.hid (refWrongs_any A n c l _ (h.ext e1))
  have OK := Lib.hid (wrongRules_zero hr).2.2
  have hkl := Lib.hid hT.len
  have HR := Lib.hid hr
  generalize hW1 : w.alloc (.cells #[.int .i64 0, .int .i64 0] 38) = w1 at *
  have HW1 := Lib.hid hW1; clear hW1
  rw [(wrongRules_zero hr).1] at HC
  clear hr
  have hsz : w.heap.size < w1.heap.size := wa.1
  have hk' : decide (200 < (k : Int)) = false := by simp; omega
  have hkc := hT.cap; have hkm := hT.max; unfold maxLen at hkm
  have HFP : Hid (feedP l cs = feedGo l (reachB l 0 0).2 0 ⟨⟨[], 0, 0, 0⟩, 0, []⟩ (cs.drop 0)) := Lib.hid rfl
  have HFE : Hid (∀ s : Strm, feedE l s = goOn l (reachB l 0 0).2 true (8 * s.came + 40 - s.p.steps) s.p) := Lib.hid (fun _ => rfl)
  have HGO : Hid (∀ (fin : Bool) (X : Option Addr) (m d : Nat) (t : List Int) (a st cm u : Nat) (W : World) (tk : Nat → Prop), Ext w W → SlR rRune 1 tk W X m d t → m ≤ 4000 → a ≤ m → cm ≤ 4000 → st ≤ 8 * cm + 40 →
    Calls Try.prog 101 #[.slice A n c, .agg #[.slice X m d, .int .i64 a, .int .i64 st], .int .i64 cm, .bool fin] W fun x w' => GoR tk W.heap.size l (reachB l 0 0).2 fin (8 * cm + 40) ⟨t, a, st, u⟩ w' x ∧ Ext W w') :=
    Lib.hid (fun fin X m d t a st cm u W tk e ht hm ha hcm hst => refGo_any A n c l X m d t a st cm u W tk (h.ext e) OK.out ht hm ha hcm hst fin)
  generalize (reachB l 0 0).2 = ah at *
  go_enter Try.func43, Try.ntmps43
  go_wp2_with fail
  rw [HW1.out]
  go_wp2_with (go_at_call 32; refine HC.out.mono ?_; rintro x w2 ⟨rfl, x2⟩)
  have x13 := (x2.alloc (.cells #[.int .i64 0, .int .i64 0] 38)).alloc (.cells #[.slice none 0 0, .int .i64 0, .int .i64 0] 124)
  have E3 := e1.trans x13
  have TX : TxAt (w2.heap.size + 1) bot ((w2.alloc (.cells #[.int .i64 0, .int .i64 0] 38)).alloc (.cells #[.slice none 0 0, .int .i64 0, .int .i64 0] 124)) none 0 0 [] 0 0 :=
    ⟨SlR.nil _ _ _ _ _ _ (by unfold maxLen; omega), by simp, by simp, by simp, by simpa using Wr.new (w2.alloc (.cells #[.int .i64 0, .int .i64 0] 38)) #[.slice none 0 0, .int .i64 0, .int .i64 0] 124⟩
  have v0 := x13.cell k0; have v1 := x13.cell k1
  have wa3 := wa.ext x13
  have hs12 := x2.size
  obtain ⟨b, hbq⟩ : ∃ b, w2.heap.size + 1 = b := ⟨_, rfl⟩
  have HBQ := Lib.hid hbq
  rw [hbq] at TX ⊢
  generalize (w2.alloc (.cells #[.int .i64 0, .int .i64 0] 38)).alloc (.cells #[.slice none 0 0, .int .i64 0, .int .i64 0] 124) = w3 at *
  have hrb : w.heap.size ≠ b := by omega
  have hwb : w.heap.size ≤ b := by omega
  have hb3 : b < w3.heap.size := TX.wr.1
  clear hbq k0 k1 HC wa x13
  go_loopw [11, 12, 13, 33] (fun v p q i wr => ∃ (j : Nat) (tk : Nat → Prop) (X : Option Addr) (m d : Nat) (t : List Int) (a st u cm : Nat) (out : List (List Int)), i = .int .i64 j ∧ p = .int .i64 cm ∧ q = .int .i64 a ∧ j ≤ k ∧ TxAt b tk wr X m d t a st ∧ PlayOk (8 * cm + 40) ⟨t, a, st, u⟩ ∧ cm ≤ 4000 ∧
    Hid (feedP l cs = feedGo l ah j ⟨⟨t, a, st, u⟩, cm, out⟩ (cs.drop j)) ∧ Trn b w3 wr ∧ out.length = j ∧ OutR 23 b w3.heap.size wr v out ∧ Hid (∀ g, v.ownBlock = some g → ¬ tk g)) (fun _ _ _ i _ => k - (intOf i).toNat)
  case atStart => exact ⟨0, bot, none, 0, 0, [], 0, 0, 0, 0, [], rfl, rfl, rfl, by omega, TX, ⟨Nat.le_refl _, by simp, by simp⟩, by omega, HFP, Trn.refl _ _, rfl, OutR.nil _ _ _ _, Lib.hid (fun _ _ h => h)⟩
  case round =>
    obtain ⟨j, tk, X, m, d, t, a, st, u, cm, out, rfl, rfl, rfl, hj, PA, hok, hcm, HG, hTr, hol, HO, Htk⟩ := hrel
    obtain ⟨AO, cO, rfl⟩ := HO.len
    have ER := hTr.run E3 hwb
    have hPL := Lib.hid PA.text.len
    have o1 := hok.at_; have o2 := hok.len; have o3 := hok.steps
    simp only [hPL.out] at o1 o2 o3
    have HOK := Lib.hid hok
    have HPA := Lib.hid PA
    have HOL := Lib.hid hol
    have hszr : w3.heap.size ≤ wr.heap.size := hTr.size
    have g0 := PA.c0; have g1 := PA.c1; have g2 := PA.c2; have gz := PA.wr.2; have gl := PA.wr.1
    have r0 := hTr.cell v0 hrb; have r1 := hTr.cell v1 hrb; have rz := (hTr.wr wa3 hrb).2; have rl := (hTr.wr wa3 hrb).1
    clear hok PA TX hol
    by_cases hlt : j < k
    · obtain ⟨ch, hch⟩ := hT.idx hlt
      obtain ⟨b2, off2, Y0, k2, c2, rfl, ⟨_, hne2⟩, hcell, hrs⟩ := hT.sl hch
      have hcell2 := ER.cell hcell
      have hCL := Lib.hid hrs.len
      have hc2 := hrs.cap; have hm2 := hrs.max; unfold maxLen at hm2
      have HX := Lib.hid (fun W (e : Ext w W) => (refText_any _ _ _ ch W (SlR.ext (keep_rune _) (SlR.mono hrs (fun _ _ h => h) (fun _ h => h)) e)).mono (R' := fun e w' => e = .returned (.int .i64 (wrongText ch)) ∧ Ext W w') (fun x w' h => ⟨h.1, h.2 ▸ Ext.refl _⟩))
      have S1 : Hid (¬ 4000 < IntKind.i64.wrap ((cm : Int) + k2) → cm + k2 ≤ 4000 ∨ 4000 < k2) := Lib.hid (wrap_small hcm (by omega))
      have S2 : Hid (¬ 4000 < IntKind.i64.wrap ((m : Int) + k2) → m + k2 ≤ 4000 ∨ 4000 < k2) := Lib.hid (wrap_small o2 (by omega))
      have B1 : Hid (4000 < IntKind.i64.wrap ((cm : Int) + k2) → 4000 < cm + k2) := Lib.hid (wrap_big hcm (by omega))
      have B2 : Hid (4000 < IntKind.i64.wrap ((m : Int) + k2) → 4000 < m + k2) := Lib.hid (wrap_big o2 (by omega))
      obtain ⟨z1, e1'⟩ : ∃ z, IntKind.i64.wrap ((cm : Int) + k2) = z := ⟨_, rfl⟩
      obtain ⟨z2, e2'⟩ : ∃ z, IntKind.i64.wrap ((m : Int) + k2) = z := ⟨_, rfl⟩
      rw [e1'] at S1 B1; rw [e2'] at S2 B2
      have BAD : Hid (∀ er : Int, (takeF l ah ⟨t, a, st, u⟩ cm ch).2 = er → er ≠ 0 → waitF l cs = (er, j) ∧ waitN l cs = 0 ∧ feedF l cs = (er, j) ∧ feedO l cs = []) :=
        Lib.hid (fun er he h0 => wait_bad HR.out (by rw [hkl.out]; exact hk) (HG.out.trans (feedGo_bad hch he h0)) h0)
      by_cases q1 : 4000 < z1
      · have HW := Lib.hid (BAD.out 4 (by rw [takeF_much (by rw [hCL.out]; exact .inl (B1.out q1))]) (by omega))
        have q1t : decide (4000 < z1) = true := by simpa using q1
        clear BAD hch
        go_wp2
        refine bodyPost_ret (v := .tuple #[.slice none 0 0, .int .i64 0, .agg #[.int .i64 4, .int .i64 j]]) (by simp [results, Try.results43, go_sem, r0, r1]) rfl ?_
        exact ⟨by rw [HW.out.1, HW.out.2.1]; rfl, ext_set (ext_set (ER) (Nat.le_refl _) _ _) (Nat.le_refl _) _ _⟩
      by_cases q2 : 4000 < z2
      · have HW := Lib.hid (BAD.out 4 (by rw [takeF_much (by rw [hCL.out, hPL.out]; exact .inr (B2.out q2))]) (by omega))
        have q1t : decide (4000 < z1) = false := by simpa using q1
        have q2t : decide (4000 < z2) = true := by simpa using q2
        clear BAD hch
        go_wp2
        refine bodyPost_ret (v := .tuple #[.slice none 0 0, .int .i64 0, .agg #[.int .i64 4, .int .i64 j]]) (by simp [results, Try.results43, go_sem, r0, r1]) rfl ?_
        exact ⟨by rw [HW.out.1, HW.out.2.1]; rfl, ext_set (ext_set (ER) (Nat.le_refl _) _ _) (Nat.le_refl _) _ _⟩
      have q1t : decide (4000 < z1) = false := by simpa using q1
      have q2t : decide (4000 < z2) = false := by simpa using q2
      have p1 := S1.out q1; have p2 := S2.out q2
      by_cases hw : wrongText ch = 0
      · have hk2 := (text_of hw).1; rw [hCL.out] at hk2
        have HN : Hid (takeF l ah ⟨t, a, st, u⟩ cm ch = goOn l ah false (8 * (cm + k2) + 40 - st) ⟨t ++ ch, a, st, u⟩) := Lib.hid (by rw [takeF_on (by rw [hCL.out, hPL.out]; omega) hw, hCL.out])
        have HW := Lib.hid hw
        have hcm' : cm + k2 ≤ 4000 := by omega
        have hmk : m + k2 ≤ 4000 := by omega
        have hz1 : IntKind.i64.wrap ((cm : Int) + k2) = (cm : Int) + k2 := IntWalk.i64_in _ (by omega)
        have HZ : Hid (z1 = ((cm + k2 : Nat) : Int)) := Lib.hid (by rw [← e1', hz1]; omega)
        have hlen : Hid ((t ++ ch).length = m + k2) := Lib.hid (by rw [List.length_append, hPL.out, hCL.out])
        have HCH := Lib.hid hch
        have hk200 : k ≤ 200 := by omega
        clear hw q1 q2 p1 p2 hz1 hch
        go_upto_region 19 with (first
          | (go_at_call 25; refine (HX.out _ ER).mono ?_; rintro x w5 ⟨rfl, x5⟩; rw [HW.out]; have T5 := HPA.out.ext x5; have E5 := ER.trans x5; have j0 := T5.c0; have jl := T5.wr.1; have jne := Nat.ne_of_lt jl; have xe := (Ext.refl w5).alloc (.cells #[] 21); have o0 := OwnR.empty rRune 21 1 w5.heap.size w5 (Nat.le_refl _))
          | (at_builtin
             refine wpList_appS T_rune (by omega) rfl (.tmp 65) (.tmp 67) rfl rfl o0 rfl (T5.ext xe).runes (fun _ _ h => h) one_rune (keep_rune bot) (bot_no _) ?_ xe.size ?_
             · simp; omega
             intro v6 w6 o6 g6 hat6
             have x6 := xe.app g6 o0
             simp only [List.nil_append] at o6)
          | (at_builtin
             refine wpList_appS T_rune (by omega) rfl (.tmp 68) (.tmp 69) rfl rfl o6 rfl (SlR.ext (keep_rune _) hrs (E5.trans x6)) (fun _ _ h => h) one_rune (keep_rune bot) (bot_no _) ?_ x6.size ?_
             · rw [hPL.out]; omega
             intro v7 w7 o7 g7 hat7
             have x7 := x6.app g7 o6
             obtain ⟨AX, cX, rfl, sX⟩ := o7.sl
             rw [hlen.out] at sX ⊢
             have T7 := T5.ext x7
             have i0 := T7.c0; have iz := T7.wr.2; have il := T7.wr.1))
        have hz := HZ.out
        subst hz
        have hs5 := x5.size
        have sX' : SlR rRune 1 (fun i => i ≠ b ∧ wr.heap.size ≤ i) w7 AX (m + k2) cX (t ++ ch) := sX.mono (fun _ _ h => h) (fun i hi => by have hi' : w5.heap.size ≤ i := hi; exact ⟨by omega, by omega⟩)
        have T8 := T7.set (tk' := fun i => wr.heap.size ≤ i) sX'
        have Tw8 := (Trn.of b (x5.trans x7)).set 0 (.slice AX (m + k2) cX)
        have TR8 := hTr.trans Tw8
        have O8 := HO.trn hb3 Tw8
        have E8 := TR8.run E3 hwb
        generalize w7.setCell ⟨b, 0, none⟩ (.slice AX (m + k2) cX) = w8 at *
        clear o0 o6 o7 g6 g7 hat6 hat7 x6 x7 xe sX sX' T7 i0 iz il T5 E5 j0 jl jne x5 g0 g1 g2 gz gl r0 r1 rz rl
        have HGo := Lib.hid (HGO.out false AX (m + k2) cX (t ++ ch) a st (cm + k2) u w8 (fun i => i ≠ b ∧ wr.heap.size ≤ i) E8 T8.text hmk (by omega) hcm' (by omega))
        have i0 := T8.c0; have i1 := T8.c1; have i2 := T8.c2
        obtain ⟨⟨⟨t2, a2, s2, u2⟩, er⟩, htk⟩ : ∃ z, takeF l ah ⟨t, a, st, u⟩ cm ch = z := ⟨_, rfl⟩
        have HG8 : Hid (goOn l ah false (8 * (cm + k2) + 40 - st) ⟨t ++ ch, a, st, u⟩ = (⟨t2, a2, s2, u2⟩, er)) := Lib.hid (HN.out.symm.trans htk)
        have hs8 := Tw8.size
        by_cases h0 : er = 0
        · subst h0
          have inv := takeF_inv OK.out (ah := ah) (c := ch) HOK.out hcm (by rw [htk])
          rw [htk] at inv
          obtain ⟨tl, htl⟩ : ∃ tl, (t2.take a2).drop a = tl := ⟨_, rfl⟩
          have HG2 : Hid (feedP l cs = feedGo l ah (j + 1) ⟨⟨t2, a2, s2, u2⟩, cm + k2, out ++ [tl]⟩ (cs.drop (j + 1))) := Lib.hid (by rw [← htl, ← hCL.out]; exact HG.out.trans (feedGo_on HCH.out htk))
          rw [hCL.out] at inv
          have HI := Lib.hid inv
          have HTL := Lib.hid htl
          have inv1 := inv.1.at_; have inv2 := inv.1.len; have inv3 := inv.2.1
          simp only at inv1 inv2 inv3
          clear inv htk htl BAD
          go_upto_region 23 with (go_at_call 101; refine HGo.out.mono ?_; rintro x w9 ⟨hx9, x9⟩; obtain ⟨Y, ky, ey, a', s', rfl, hfin⟩ := hx9.of HG8.out; obtain ⟨sY, ha', hs'⟩ := hfin rfl; simp only at sY ha' hs'; subst ha' hs'; have T9 := T8.ext x9; have i0 := T9.c0; have i1 := T9.c1; have i2 := T9.c2; have iz := T9.wr.2; have il := T9.wr.1; have ine := Nat.ne_of_lt il; have ine' := ine.symm)
          have sY' : SlR rRune 1 (fun i => i ≠ b ∧ wr.heap.size ≤ i) w9 Y ky ey t2 := sY.mono (fun _ _ h => h) (fun i hi => by
            rcases hi with hi | hi
            · exact hi
            · have := T8.wr.1; exact ⟨by omega, by omega⟩)
          have T10 := (T9.set3 (tk' := fun i => wr.heap.size ≤ i) sY' (p := (a2 : Int)) (q := (s2 : Int)) rfl rfl).ext ((Ext.refl _).alloc (.cells #[.slice Y ky ey, .int .i64 (a2 : Int), .int .i64 (s2 : Int)] 124))
          have Tw10 := (((((Trn.of b x9).set 0 (.slice Y ky ey)).set 1 (.int .i64 (a2 : Int))).set 2 (.int .i64 (s2 : Int))).ext ((Ext.refl _).alloc (.cells #[.slice Y ky ey, .int .i64 (a2 : Int), .int .i64 (s2 : Int)] 124)))
          generalize ((((w9.setCell ⟨b, 0, none⟩ (.slice Y ky ey)).setCell ⟨b, 1, none⟩ (.int .i64 (a2 : Int))).setCell ⟨b, 2, none⟩ (.int .i64 (s2 : Int))).alloc (.cells #[.slice Y ky ey, .int .i64 (a2 : Int), .int .i64 (s2 : Int)] 124)) = w10 at *
          have TR10 := TR8.trans Tw10
          have O10 := O8.trn hb3 Tw10
          have hs10 := Tw10.size
          have hly := sY'.len; have hcy := sY'.cap; have hmy := sY'.max
          clear sY sY' T9 i0 i1 i2 iz il ine ine' T8 HGo hx9 hfin x9
          have i0 := T10.c0; have i1 := T10.c1; have il := T10.wr.1; have ine := Nat.ne_of_lt il
          have xe := (Ext.refl w10).alloc (.cells #[] 21)
          have o0 := OwnR.empty rRune 21 1 w10.heap.size w10 (Nat.le_refl _)
          have hs1 := fun W => run_cut_lh T_rune Y ky ey (a : Int) (a2 : Int) a a2 rfl rfl inv3 (by omega) W
          have HS := Lib.hid (((T10.ext xe).runes).mid (lo := a) (hi := a2) inv3 (by omega))
          rw [HTL.out] at HS
          go_wp2_with (first
            | (at_builtin
               refine wpList_appS T_rune (by omega) rfl (.tmp 86) (.tmp 92) rfl rfl o0 rfl HS.out (fun _ _ h => h) one_rune (keep_rune bot) (bot_no _) ?_ xe.size ?_
               · simp; omega
               intro v11 w11 o11 g11 hat11
               simp only [List.nil_append] at o11
               have x11 := xe.app g11 o0
               obtain ⟨AV, cV, rfl, sV⟩ := o11.sl
               have hs11 : w10.heap.size ≤ w11.heap.size := x11.size
               have X12 := (Ext.refl w11).alloc (.cells #[.slice AV tl.length cV] 23)
               have O12 := (O10.ext hb3 x11).ext hb3 X12
               have sV' : SlR rRune 1 (fun i => w10.heap.size ≤ i ∧ i < w11.heap.size) w11 AV tl.length cV tl := SlR.lt (by omega) sV
               have hbase : w3.heap.size ≤ (w11.alloc (.cells #[.slice AV tl.length cV] 23)).heap.size := by simp; omega)
            | (at_builtin
               obtain ⟨ok, OW, ht1, ht2, ht3⟩ := O12.more (tk := fun i => w10.heap.size ≤ i ∧ i < w11.heap.size) (fun i hi => ⟨by omega, by simp; omega, fun g hg => by have := (HO.lt g hg).2; omega⟩)
               refine wpList_appS T_text (by omega) rfl (.tmp 85) (.tmp 94) rfl rfl OW rfl (text_one 23 sV') (fun vs x ⟨A, n, c, e, hs⟩ => ⟨A, n, c, e, hs.mono (fun _ _ h => h) ht1⟩) (one_sl _ _ _) (keep_sl (keep_rune ok)) ht3 ?_ hbase ?_
               · rw [HOL.out]; omega
               intro v13 w13 o13 g13 hat13
               have P13 := (((T10.ext x11).here.ext X12).app g13 (fun e => by have := (HO.lt b e).1; omega) (fun g hg hk => by
                 have h1 := (HO.lt g hg).2
                 have h2 := hk.1
                 omega))
               have q1 := P13.c1))
          have O13 : OutR 23 b w3.heap.size w13 v13 (out ++ [tl]) := OutR.shut o13 ht2 ht3 g13 hat13
          have T313 := ((TR10.ext x11).ext X12).app g13 (fun g hg => (HO.lt g hg).1)
          have Htk2 : Hid (∀ g, v13.ownBlock = some g → ¬ (wr.heap.size ≤ g ∧ g < w11.heap.size)) := Lib.hid (fun g hg hk => by
            rcases hat13 with e | e
            · rw [e] at hg
              have h1 := (HO.lt g hg).2
              omega
            · rw [e] at hg
              have h1 := hk.2
              simp at hg
              omega)
          go_roundw
          case rel => exact ⟨j + 1, _, Y, ky, ey, t2, a2, s2, u2, cm + k2, out ++ [tl], by go_num, by go_num, rfl, by omega, P13, HI.out.1, HI.out.2.2, HG2, T313, by simp [HOL.out], O13, Htk2⟩
          case measure => simp [intOf]; omega
        · have HW := Lib.hid (BAD.out er (by rw [htk]) h0)
          have hn0 : (er != 0) = true := by simpa using h0
          clear htk h0 BAD
          go_wp2_with (go_at_call 101; refine HGo.out.mono ?_; rintro x w9 ⟨hx9, x9⟩; obtain ⟨Y, ky, ey, a', s', rfl, _⟩ := hx9.of HG8.out; have T39 := TR8.ext x9; have r0 := T39.cell v0 hrb; have r1 := T39.cell v1 hrb; have rz := (T39.wr wa3 hrb).2; have rl := (T39.wr wa3 hrb).1; have rne := Nat.ne_of_lt rl; have rne' := rne.symm)
          refine bodyPost_ret (v := .tuple #[.slice none 0 0, .int .i64 0, .agg #[.int .i64 er, .int .i64 j]]) (by simp [results, Try.results43, go_sem, r0, r1, rl, rne, rne']) rfl ?_
          exact ⟨by rw [HW.out.1, HW.out.2.1]; rfl, (ext_set (ext_set (E8.trans x9) (Nat.le_refl _) _ _) (Nat.le_refl _) _ _).alloc _⟩
      · have HW' : Hid ((takeF l ah ⟨t, a, st, u⟩ cm ch).2 = wrongText ch) := Lib.hid (by
          by_cases hmu : 4000 < cm + ch.length ∨ 4000 < t.length + ch.length
          · rw [takeF_much hmu]
            rw [hCL.out, hPL.out] at hmu
            unfold wrongText; rw [if_pos (by rw [hCL.out]; omega)]
          · rw [takeF_bad hmu hw])
        have HW := Lib.hid (BAD.out _ HW'.out hw)
        have hw' : (wrongText ch != 0) = true := by simpa using hw
        clear hw q1 q2 p1 p2 BAD hch r0 r1 rz rl
        go_wp2_with (go_at_call 25; refine (HX.out _ ER).mono ?_; rintro x w5 ⟨rfl, x5⟩; have T35 := hTr.ext x5; have r0 := T35.cell v0 hrb; have r1 := T35.cell v1 hrb; have rz := (T35.wr wa3 hrb).2; have rl := (T35.wr wa3 hrb).1)
        refine bodyPost_ret (v := .tuple #[.slice none 0 0, .int .i64 0, .agg #[.int .i64 (wrongText ch), .int .i64 j]]) (by simp [results, Try.results43, go_sem, r0, r1]) rfl ?_
        exact ⟨by rw [HW.out.1, HW.out.2.1]; rfl, ext_set (ext_set (ER.trans x5) (Nat.le_refl _) _ _) (Nat.le_refl _) _ _⟩
    · have hjk : j = k := by omega
      subst hjk
      have hfe := HG.out.trans (feedGo_end (by rw [hkl.out]; exact Nat.le_refl _))
      have HW := Lib.hid (wait_fine HR.out (by rw [hkl.out]; exact hk) hfe)
      have hsub : IntKind.i64.wrap ((m : Int) - a) = ((m - a : Nat) : Int) := by rw [IntWalk.i64_in _ (by omega)]; omega
      clear hfe
      go_wp2
      refine bodyPost_ret (v := .tuple #[.slice none 0 0, .int .i64 ((m - a : Nat) : Int), .agg #[.int .i64 0, .int .i64 0]]) (by simp [results, Try.results43, go_sem, r0, r1]) rfl ?_
      exact ⟨by rw [HW.out.1, HW.out.2]; simp only [hPL.out]; rfl, ext_set (ext_set ER (Nat.le_refl _) _ _) (Nat.le_refl _) _ _⟩

set_option maxRecDepth 100000 in
set_option maxHeartbeats 8000000 in
include h hT in
theorem refFeed_true (hr : (wrongRules l).1 = 0) (hk : ¬ 200 < k) :
    Calls Try.prog 43 #[.slice A n c, .slice T k e, .bool true] w fun x w' => RFeedV l cs w' x ∧ Ext w w' := by
  have e1 := (Ext.refl w).alloc (.cells #[.int .i64 0, .int .i64 0] 38)
  have k0 : (w.alloc (.cells #[.int .i64 0, .int .i64 0] 38)).cell? ⟨w.heap.size, 0, none⟩ = some (.int .i64 0) := by simp
  have k1 : (w.alloc (.cells #[.int .i64 0, .int .i64 0] 38)).cell? ⟨w.heap.size, 1, none⟩ = some (.int .i64 0) := by simp
  have wa := Wr.new w #[.int .i64 0, .int .i64 0] 38
  have HC := Lib.hid (refWrongs_any A n c l _ (h.ext e1))
  have OK := Lib.hid (wrongRules_zero hr).2.2
  have hkl := Lib.hid hT.len
  have HR := Lib.hid hr
  generalize hW1 : w.alloc (.cells #[.int .i64 0, .int .i64 0] 38) = w1 at *
  have HW1 := Lib.hid hW1; clear hW1
  rw [(wrongRules_zero hr).1] at HC
  clear hr
  have hsz : w.heap.size < w1.heap.size := wa.1
  have hk' : decide (200 < (k : Int)) = false := by simp; omega
  have hkc := hT.cap; have hkm := hT.max; unfold maxLen at hkm
  have HFP : Hid (feedP l cs = feedGo l (reachB l 0 0).2 0 ⟨⟨[], 0, 0, 0⟩, 0, []⟩ (cs.drop 0)) := Lib.hid rfl
  have HFE : Hid (∀ s : Strm, feedE l s = goOn l (reachB l 0 0).2 true (8 * s.came + 40 - s.p.steps) s.p) := Lib.hid (fun _ => rfl)
  have HGO : Hid (∀ (fin : Bool) (X : Option Addr) (m d : Nat) (t : List Int) (a st cm u : Nat) (W : World) (tk : Nat → Prop), Ext w W → SlR rRune 1 tk W X m d t → m ≤ 4000 → a ≤ m → cm ≤ 4000 → st ≤ 8 * cm + 40 →
    Calls Try.prog 101 #[.slice A n c, .agg #[.slice X m d, .int .i64 a, .int .i64 st], .int .i64 cm, .bool fin] W fun x w' => GoR tk W.heap.size l (reachB l 0 0).2 fin (8 * cm + 40) ⟨t, a, st, u⟩ w' x ∧ Ext W w') :=
    Lib.hid (fun fin X m d t a st cm u W tk e ht hm ha hcm hst => refGo_any A n c l X m d t a st cm u W tk (h.ext e) OK.out ht hm ha hcm hst fin)
  generalize (reachB l 0 0).2 = ah at *
  go_enter Try.func43, Try.ntmps43
  go_wp2_with fail
  rw [HW1.out]
  go_wp2_with (go_at_call 32; refine HC.out.mono ?_; rintro x w2 ⟨rfl, x2⟩)
  have x13 := (x2.alloc (.cells #[.int .i64 0, .int .i64 0] 38)).alloc (.cells #[.slice none 0 0, .int .i64 0, .int .i64 0] 124)
  have E3 := e1.trans x13
  have TX : TxAt (w2.heap.size + 1) bot ((w2.alloc (.cells #[.int .i64 0, .int .i64 0] 38)).alloc (.cells #[.slice none 0 0, .int .i64 0, .int .i64 0] 124)) none 0 0 [] 0 0 :=
    ⟨SlR.nil _ _ _ _ _ _ (by unfold maxLen; omega), by simp, by simp, by simp, by simpa using Wr.new (w2.alloc (.cells #[.int .i64 0, .int .i64 0] 38)) #[.slice none 0 0, .int .i64 0, .int .i64 0] 124⟩
  have v0 := x13.cell k0; have v1 := x13.cell k1
  have wa3 := wa.ext x13
  have hs12 := x2.size
  obtain ⟨b, hbq⟩ : ∃ b, w2.heap.size + 1 = b := ⟨_, rfl⟩
  have HBQ := Lib.hid hbq
  rw [hbq] at TX ⊢
  generalize (w2.alloc (.cells #[.int .i64 0, .int .i64 0] 38)).alloc (.cells #[.slice none 0 0, .int .i64 0, .int .i64 0] 124) = w3 at *
  have hrb : w.heap.size ≠ b := by omega
  have hwb : w.heap.size ≤ b := by omega
  have hb3 : b < w3.heap.size := TX.wr.1
  clear hbq k0 k1 HC wa x13
  go_loopw [11, 12, 13, 33] (fun v p q i wr => ∃ (j : Nat) (tk : Nat → Prop) (X : Option Addr) (m d : Nat) (t : List Int) (a st u cm : Nat) (out : List (List Int)), i = .int .i64 j ∧ p = .int .i64 cm ∧ q = .int .i64 a ∧ j ≤ k ∧ TxAt b tk wr X m d t a st ∧ PlayOk (8 * cm + 40) ⟨t, a, st, u⟩ ∧ cm ≤ 4000 ∧
    Hid (feedP l cs = feedGo l ah j ⟨⟨t, a, st, u⟩, cm, out⟩ (cs.drop j)) ∧ Trn b w3 wr ∧ out.length = j ∧ OutR 23 b w3.heap.size wr v out ∧ Hid (∀ g, v.ownBlock = some g → ¬ tk g)) (fun _ _ _ i _ => k - (intOf i).toNat)
  case atStart => exact ⟨0, bot, none, 0, 0, [], 0, 0, 0, 0, [], rfl, rfl, rfl, by omega, TX, ⟨Nat.le_refl _, by simp, by simp⟩, by omega, HFP, Trn.refl _ _, rfl, OutR.nil _ _ _ _, Lib.hid (fun _ _ h => h)⟩
  case round =>
    obtain ⟨j, tk, X, m, d, t, a, st, u, cm, out, rfl, rfl, rfl, hj, PA, hok, hcm, HG, hTr, hol, HO, Htk⟩ := hrel
    obtain ⟨AO, cO, rfl⟩ := HO.len
    have ER := hTr.run E3 hwb
    have hPL := Lib.hid PA.text.len
    have o1 := hok.at_; have o2 := hok.len; have o3 := hok.steps
    simp only [hPL.out] at o1 o2 o3
    have HOK := Lib.hid hok
    have HPA := Lib.hid PA
    have HOL := Lib.hid hol
    have hszr : w3.heap.size ≤ wr.heap.size := hTr.size
    have g0 := PA.c0; have g1 := PA.c1; have g2 := PA.c2; have gz := PA.wr.2; have gl := PA.wr.1
    have r0 := hTr.cell v0 hrb; have r1 := hTr.cell v1 hrb; have rz := (hTr.wr wa3 hrb).2; have rl := (hTr.wr wa3 hrb).1
    clear hok PA TX hol
    by_cases hlt : j < k
    · obtain ⟨ch, hch⟩ := hT.idx hlt
      obtain ⟨b2, off2, Y0, k2, c2, rfl, ⟨_, hne2⟩, hcell, hrs⟩ := hT.sl hch
      have hcell2 := ER.cell hcell
      have hCL := Lib.hid hrs.len
      have hc2 := hrs.cap; have hm2 := hrs.max; unfold maxLen at hm2
      have HX := Lib.hid (fun W (e : Ext w W) => (refText_any _ _ _ ch W (SlR.ext (keep_rune _) (SlR.mono hrs (fun _ _ h => h) (fun _ h => h)) e)).mono (R' := fun e w' => e = .returned (.int .i64 (wrongText ch)) ∧ Ext W w') (fun x w' h => ⟨h.1, h.2 ▸ Ext.refl _⟩))
      have S1 : Hid (¬ 4000 < IntKind.i64.wrap ((cm : Int) + k2) → cm + k2 ≤ 4000 ∨ 4000 < k2) := Lib.hid (wrap_small hcm (by omega))
      have S2 : Hid (¬ 4000 < IntKind.i64.wrap ((m : Int) + k2) → m + k2 ≤ 4000 ∨ 4000 < k2) := Lib.hid (wrap_small o2 (by omega))
      have B1 : Hid (4000 < IntKind.i64.wrap ((cm : Int) + k2) → 4000 < cm + k2) := Lib.hid (wrap_big hcm (by omega))
      have B2 : Hid (4000 < IntKind.i64.wrap ((m : Int) + k2) → 4000 < m + k2) := Lib.hid (wrap_big o2 (by omega))
      obtain ⟨z1, e1'⟩ : ∃ z, IntKind.i64.wrap ((cm : Int) + k2) = z := ⟨_, rfl⟩
      obtain ⟨z2, e2'⟩ : ∃ z, IntKind.i64.wrap ((m : Int) + k2) = z := ⟨_, rfl⟩
      rw [e1'] at S1 B1; rw [e2'] at S2 B2
      have BAD : Hid (∀ er : Int, (takeF l ah ⟨t, a, st, u⟩ cm ch).2 = er → er ≠ 0 → waitF l cs = (er, j) ∧ waitN l cs = 0 ∧ feedF l cs = (er, j) ∧ feedO l cs = []) :=
        Lib.hid (fun er he h0 => wait_bad HR.out (by rw [hkl.out]; exact hk) (HG.out.trans (feedGo_bad hch he h0)) h0)
      by_cases q1 : 4000 < z1
      · have HW := Lib.hid (BAD.out 4 (by rw [takeF_much (by rw [hCL.out]; exact .inl (B1.out q1))]) (by omega))
        have q1t : decide (4000 < z1) = true := by simpa using q1
        clear BAD hch
        go_wp2
        refine bodyPost_ret (v := .tuple #[.slice none 0 0, .int .i64 0, .agg #[.int .i64 4, .int .i64 j]]) (by simp [results, Try.results43, go_sem, r0, r1]) rfl ?_
        exact ⟨⟨none, 0, 0, by rw [HW.out.2.2.1, HW.out.2.2.2]; rfl, by rw [HW.out.2.2.2]; exact SlR.nil _ _ _ _ _ _ (by unfold maxLen; omega)⟩, ext_set (ext_set (ER) (Nat.le_refl _) _ _) (Nat.le_refl _) _ _⟩
      by_cases q2 : 4000 < z2
      · have HW := Lib.hid (BAD.out 4 (by rw [takeF_much (by rw [hCL.out, hPL.out]; exact .inr (B2.out q2))]) (by omega))
        have q1t : decide (4000 < z1) = false := by simpa using q1
        have q2t : decide (4000 < z2) = true := by simpa using q2
        clear BAD hch
        go_wp2
        refine bodyPost_ret (v := .tuple #[.slice none 0 0, .int .i64 0, .agg #[.int .i64 4, .int .i64 j]]) (by simp [results, Try.results43, go_sem, r0, r1]) rfl ?_
        exact ⟨⟨none, 0, 0, by rw [HW.out.2.2.1, HW.out.2.2.2]; rfl, by rw [HW.out.2.2.2]; exact SlR.nil _ _ _ _ _ _ (by unfold maxLen; omega)⟩, ext_set (ext_set (ER) (Nat.le_refl _) _ _) (Nat.le_refl _) _ _⟩
      have q1t : decide (4000 < z1) = false := by simpa using q1
      have q2t : decide (4000 < z2) = false := by simpa using q2
      have p1 := S1.out q1; have p2 := S2.out q2
      by_cases hw : wrongText ch = 0
      · have hk2 := (text_of hw).1; rw [hCL.out] at hk2
        have HN : Hid (takeF l ah ⟨t, a, st, u⟩ cm ch = goOn l ah false (8 * (cm + k2) + 40 - st) ⟨t ++ ch, a, st, u⟩) := Lib.hid (by rw [takeF_on (by rw [hCL.out, hPL.out]; omega) hw, hCL.out])
        have HW := Lib.hid hw
        have hcm' : cm + k2 ≤ 4000 := by omega
        have hmk : m + k2 ≤ 4000 := by omega
        have hz1 : IntKind.i64.wrap ((cm : Int) + k2) = (cm : Int) + k2 := IntWalk.i64_in _ (by omega)
        have HZ : Hid (z1 = ((cm + k2 : Nat) : Int)) := Lib.hid (by rw [← e1', hz1]; omega)
        have hlen : Hid ((t ++ ch).length = m + k2) := Lib.hid (by rw [List.length_append, hPL.out, hCL.out])
        have HCH := Lib.hid hch
        have hk200 : k ≤ 200 := by omega
        clear hw q1 q2 p1 p2 hz1 hch
        go_upto_region 19 with (first
          | (go_at_call 25; refine (HX.out _ ER).mono ?_; rintro x w5 ⟨rfl, x5⟩; rw [HW.out]; have T5 := HPA.out.ext x5; have E5 := ER.trans x5; have j0 := T5.c0; have jl := T5.wr.1; have jne := Nat.ne_of_lt jl; have xe := (Ext.refl w5).alloc (.cells #[] 21); have o0 := OwnR.empty rRune 21 1 w5.heap.size w5 (Nat.le_refl _))
          | (at_builtin
             refine wpList_appS T_rune (by omega) rfl (.tmp 65) (.tmp 67) rfl rfl o0 rfl (T5.ext xe).runes (fun _ _ h => h) one_rune (keep_rune bot) (bot_no _) ?_ xe.size ?_
             · simp; omega
             intro v6 w6 o6 g6 hat6
             have x6 := xe.app g6 o0
             simp only [List.nil_append] at o6)
          | (at_builtin
             refine wpList_appS T_rune (by omega) rfl (.tmp 68) (.tmp 69) rfl rfl o6 rfl (SlR.ext (keep_rune _) hrs (E5.trans x6)) (fun _ _ h => h) one_rune (keep_rune bot) (bot_no _) ?_ x6.size ?_
             · rw [hPL.out]; omega
             intro v7 w7 o7 g7 hat7
             have x7 := x6.app g7 o6
             obtain ⟨AX, cX, rfl, sX⟩ := o7.sl
             rw [hlen.out] at sX ⊢
             have T7 := T5.ext x7
             have i0 := T7.c0; have iz := T7.wr.2; have il := T7.wr.1))
        have hz := HZ.out
        subst hz
        have hs5 := x5.size
        have sX' : SlR rRune 1 (fun i => i ≠ b ∧ wr.heap.size ≤ i) w7 AX (m + k2) cX (t ++ ch) := sX.mono (fun _ _ h => h) (fun i hi => by have hi' : w5.heap.size ≤ i := hi; exact ⟨by omega, by omega⟩)
        have T8 := T7.set (tk' := fun i => wr.heap.size ≤ i) sX'
        have Tw8 := (Trn.of b (x5.trans x7)).set 0 (.slice AX (m + k2) cX)
        have TR8 := hTr.trans Tw8
        have O8 := HO.trn hb3 Tw8
        have E8 := TR8.run E3 hwb
        generalize w7.setCell ⟨b, 0, none⟩ (.slice AX (m + k2) cX) = w8 at *
        clear o0 o6 o7 g6 g7 hat6 hat7 x6 x7 xe sX sX' T7 i0 iz il T5 E5 j0 jl jne x5 g0 g1 g2 gz gl r0 r1 rz rl
        have HGo := Lib.hid (HGO.out false AX (m + k2) cX (t ++ ch) a st (cm + k2) u w8 (fun i => i ≠ b ∧ wr.heap.size ≤ i) E8 T8.text hmk (by omega) hcm' (by omega))
        have i0 := T8.c0; have i1 := T8.c1; have i2 := T8.c2
        obtain ⟨⟨⟨t2, a2, s2, u2⟩, er⟩, htk⟩ : ∃ z, takeF l ah ⟨t, a, st, u⟩ cm ch = z := ⟨_, rfl⟩
        have HG8 : Hid (goOn l ah false (8 * (cm + k2) + 40 - st) ⟨t ++ ch, a, st, u⟩ = (⟨t2, a2, s2, u2⟩, er)) := Lib.hid (HN.out.symm.trans htk)
        have hs8 := Tw8.size
        by_cases h0 : er = 0
        · subst h0
          have inv := takeF_inv OK.out (ah := ah) (c := ch) HOK.out hcm (by rw [htk])
          rw [htk] at inv
          obtain ⟨tl, htl⟩ : ∃ tl, (t2.take a2).drop a = tl := ⟨_, rfl⟩
          have HG2 : Hid (feedP l cs = feedGo l ah (j + 1) ⟨⟨t2, a2, s2, u2⟩, cm + k2, out ++ [tl]⟩ (cs.drop (j + 1))) := Lib.hid (by rw [← htl, ← hCL.out]; exact HG.out.trans (feedGo_on HCH.out htk))
          rw [hCL.out] at inv
          have HI := Lib.hid inv
          have HTL := Lib.hid htl
          have inv1 := inv.1.at_; have inv2 := inv.1.len; have inv3 := inv.2.1
          simp only at inv1 inv2 inv3
          clear inv htk htl BAD
          go_upto_region 23 with (go_at_call 101; refine HGo.out.mono ?_; rintro x w9 ⟨hx9, x9⟩; obtain ⟨Y, ky, ey, a', s', rfl, hfin⟩ := hx9.of HG8.out; obtain ⟨sY, ha', hs'⟩ := hfin rfl; simp only at sY ha' hs'; subst ha' hs'; have T9 := T8.ext x9; have i0 := T9.c0; have i1 := T9.c1; have i2 := T9.c2; have iz := T9.wr.2; have il := T9.wr.1; have ine := Nat.ne_of_lt il; have ine' := ine.symm)
          have sY' : SlR rRune 1 (fun i => i ≠ b ∧ wr.heap.size ≤ i) w9 Y ky ey t2 := sY.mono (fun _ _ h => h) (fun i hi => by
            rcases hi with hi | hi
            · exact hi
            · have := T8.wr.1; exact ⟨by omega, by omega⟩)
          have T10 := (T9.set3 (tk' := fun i => wr.heap.size ≤ i) sY' (p := (a2 : Int)) (q := (s2 : Int)) rfl rfl).ext ((Ext.refl _).alloc (.cells #[.slice Y ky ey, .int .i64 (a2 : Int), .int .i64 (s2 : Int)] 124))
          have Tw10 := (((((Trn.of b x9).set 0 (.slice Y ky ey)).set 1 (.int .i64 (a2 : Int))).set 2 (.int .i64 (s2 : Int))).ext ((Ext.refl _).alloc (.cells #[.slice Y ky ey, .int .i64 (a2 : Int), .int .i64 (s2 : Int)] 124)))
          generalize ((((w9.setCell ⟨b, 0, none⟩ (.slice Y ky ey)).setCell ⟨b, 1, none⟩ (.int .i64 (a2 : Int))).setCell ⟨b, 2, none⟩ (.int .i64 (s2 : Int))).alloc (.cells #[.slice Y ky ey, .int .i64 (a2 : Int), .int .i64 (s2 : Int)] 124)) = w10 at *
          have TR10 := TR8.trans Tw10
          have O10 := O8.trn hb3 Tw10
          have hs10 := Tw10.size
          have hly := sY'.len; have hcy := sY'.cap; have hmy := sY'.max
          clear sY sY' T9 i0 i1 i2 iz il ine ine' T8 HGo hx9 hfin x9
          have i0 := T10.c0; have i1 := T10.c1; have il := T10.wr.1; have ine := Nat.ne_of_lt il
          have xe := (Ext.refl w10).alloc (.cells #[] 21)
          have o0 := OwnR.empty rRune 21 1 w10.heap.size w10 (Nat.le_refl _)
          have hs1 := fun W => run_cut_lh T_rune Y ky ey (a : Int) (a2 : Int) a a2 rfl rfl inv3 (by omega) W
          have HS := Lib.hid (((T10.ext xe).runes).mid (lo := a) (hi := a2) inv3 (by omega))
          rw [HTL.out] at HS
          go_wp2_with (first
            | (at_builtin
               refine wpList_appS T_rune (by omega) rfl (.tmp 86) (.tmp 92) rfl rfl o0 rfl HS.out (fun _ _ h => h) one_rune (keep_rune bot) (bot_no _) ?_ xe.size ?_
               · simp; omega
               intro v11 w11 o11 g11 hat11
               simp only [List.nil_append] at o11
               have x11 := xe.app g11 o0
               obtain ⟨AV, cV, rfl, sV⟩ := o11.sl
               have hs11 : w10.heap.size ≤ w11.heap.size := x11.size
               have X12 := (Ext.refl w11).alloc (.cells #[.slice AV tl.length cV] 23)
               have O12 := (O10.ext hb3 x11).ext hb3 X12
               have sV' : SlR rRune 1 (fun i => w10.heap.size ≤ i ∧ i < w11.heap.size) w11 AV tl.length cV tl := SlR.lt (by omega) sV
               have hbase : w3.heap.size ≤ (w11.alloc (.cells #[.slice AV tl.length cV] 23)).heap.size := by simp; omega)
            | (at_builtin
               obtain ⟨ok, OW, ht1, ht2, ht3⟩ := O12.more (tk := fun i => w10.heap.size ≤ i ∧ i < w11.heap.size) (fun i hi => ⟨by omega, by simp; omega, fun g hg => by have := (HO.lt g hg).2; omega⟩)
               refine wpList_appS T_text (by omega) rfl (.tmp 85) (.tmp 94) rfl rfl OW rfl (text_one 23 sV') (fun vs x ⟨A, n, c, e, hs⟩ => ⟨A, n, c, e, hs.mono (fun _ _ h => h) ht1⟩) (one_sl _ _ _) (keep_sl (keep_rune ok)) ht3 ?_ hbase ?_
               · rw [HOL.out]; omega
               intro v13 w13 o13 g13 hat13
               have P13 := (((T10.ext x11).here.ext X12).app g13 (fun e => by have := (HO.lt b e).1; omega) (fun g hg hk => by
                 have h1 := (HO.lt g hg).2
                 have h2 := hk.1
                 omega))
               have q1 := P13.c1))
          have O13 : OutR 23 b w3.heap.size w13 v13 (out ++ [tl]) := OutR.shut o13 ht2 ht3 g13 hat13
          have T313 := ((TR10.ext x11).ext X12).app g13 (fun g hg => (HO.lt g hg).1)
          have Htk2 : Hid (∀ g, v13.ownBlock = some g → ¬ (wr.heap.size ≤ g ∧ g < w11.heap.size)) := Lib.hid (fun g hg hk => by
            rcases hat13 with e | e
            · rw [e] at hg
              have h1 := (HO.lt g hg).2
              omega
            · rw [e] at hg
              have h1 := hk.2
              simp at hg
              omega)
          go_roundw
          case rel => exact ⟨j + 1, _, Y, ky, ey, t2, a2, s2, u2, cm + k2, out ++ [tl], by go_num, by go_num, rfl, by omega, P13, HI.out.1, HI.out.2.2, HG2, T313, by simp [HOL.out], O13, Htk2⟩
          case measure => simp [intOf]; omega
        · have HW := Lib.hid (BAD.out er (by rw [htk]) h0)
          have hn0 : (er != 0) = true := by simpa using h0
          clear htk h0 BAD
          go_wp2_with (go_at_call 101; refine HGo.out.mono ?_; rintro x w9 ⟨hx9, x9⟩; obtain ⟨Y, ky, ey, a', s', rfl, _⟩ := hx9.of HG8.out; have T39 := TR8.ext x9; have r0 := T39.cell v0 hrb; have r1 := T39.cell v1 hrb; have rz := (T39.wr wa3 hrb).2; have rl := (T39.wr wa3 hrb).1; have rne := Nat.ne_of_lt rl; have rne' := rne.symm)
          refine bodyPost_ret (v := .tuple #[.slice none 0 0, .int .i64 0, .agg #[.int .i64 er, .int .i64 j]]) (by simp [results, Try.results43, go_sem, r0, r1, rl, rne, rne']) rfl ?_
          exact ⟨⟨none, 0, 0, by rw [HW.out.2.2.1, HW.out.2.2.2]; rfl, by rw [HW.out.2.2.2]; exact SlR.nil _ _ _ _ _ _ (by unfold maxLen; omega)⟩, (ext_set (ext_set (E8.trans x9) (Nat.le_refl _) _ _) (Nat.le_refl _) _ _).alloc _⟩
      · have HW' : Hid ((takeF l ah ⟨t, a, st, u⟩ cm ch).2 = wrongText ch) := Lib.hid (by
          by_cases hmu : 4000 < cm + ch.length ∨ 4000 < t.length + ch.length
          · rw [takeF_much hmu]
            rw [hCL.out, hPL.out] at hmu
            unfold wrongText; rw [if_pos (by rw [hCL.out]; omega)]
          · rw [takeF_bad hmu hw])
        have HW := Lib.hid (BAD.out _ HW'.out hw)
        have hw' : (wrongText ch != 0) = true := by simpa using hw
        clear hw q1 q2 p1 p2 BAD hch r0 r1 rz rl
        go_wp2_with (go_at_call 25; refine (HX.out _ ER).mono ?_; rintro x w5 ⟨rfl, x5⟩; have T35 := hTr.ext x5; have r0 := T35.cell v0 hrb; have r1 := T35.cell v1 hrb; have rz := (T35.wr wa3 hrb).2; have rl := (T35.wr wa3 hrb).1)
        refine bodyPost_ret (v := .tuple #[.slice none 0 0, .int .i64 0, .agg #[.int .i64 (wrongText ch), .int .i64 j]]) (by simp [results, Try.results43, go_sem, r0, r1]) rfl ?_
        exact ⟨⟨none, 0, 0, by rw [HW.out.2.2.1, HW.out.2.2.2]; rfl, by rw [HW.out.2.2.2]; exact SlR.nil _ _ _ _ _ _ (by unfold maxLen; omega)⟩, ext_set (ext_set (ER.trans x5) (Nat.le_refl _) _ _) (Nat.le_refl _) _ _⟩
    · have hjk : j = k := by omega
      subst hjk
      have hfe := HG.out.trans (feedGo_end (by rw [hkl.out]; exact Nat.le_refl _))
      have hsub : IntKind.i64.wrap ((m : Int) - a) = ((m - a : Nat) : Int) := by rw [IntWalk.i64_in _ (by omega)]; omega
      have hfl := HFE.out ⟨⟨t, a, st, u⟩, cm, out⟩
      simp only at hfl
      obtain ⟨⟨⟨t2, a2, s2, u2⟩, er⟩, hge⟩ : ∃ z, goOn l ah true (8 * cm + 40 - st) ⟨t, a, st, u⟩ = z := ⟨_, rfl⟩
      rw [hge] at hfl
      have HG8 := Lib.hid hge
      have HGo := Lib.hid (HGO.out true X m d t a st cm u wr (fun i => i ≠ b ∧ tk i) ER HPA.out.text o2 o1 hcm o3)
      by_cases h0 : er = 0
      · subst h0
        have inv := goOn_inv OK.out (ah := ah) (fin := true) (n := 8 * cm + 40 - st) (p := ⟨t, a, st, u⟩) HOK.out
        rw [hge] at inv
        have i1 := inv.1.at_; have i2 := inv.1.len; have i3 := inv.2
        simp only at i1 i2 i3
        obtain ⟨tl, htl⟩ : ∃ tl, t2.drop a = tl := ⟨_, rfl⟩
        have HW := Lib.hid (feed_fine HR.out (by rw [hkl.out]; exact hk) hfe hfl)
        simp only [htl] at HW
        have HTL := Lib.hid htl
        have hk200 : j ≤ 200 := by omega
        clear inv hge hfe hfl htl HOK r0 r1 rz rl
        go_upto_region 32 with (go_at_call 101; refine HGo.out.mono ?_; rintro x w9 ⟨hx9, x9⟩; obtain ⟨Y, ky, ey, a', s', rfl, hfin⟩ := hx9.of HG8.out; obtain ⟨sY, ha', hs'⟩ := hfin rfl; simp only at sY ha' hs'; subst ha' hs'; have T9 := HPA.out.ext x9; have g0 := T9.c0; have g1 := T9.c1; have g2 := T9.c2; have gz := T9.wr.2; have gl := T9.wr.1)
        have sY' : SlR rRune 1 (fun i => i ≠ b ∧ (tk i ∨ wr.heap.size ≤ i)) w9 Y ky ey t2 := sY.mono (fun _ _ h => h) (fun i hi => by
          rcases hi with hi | hi
          · exact ⟨hi.1, .inl hi.2⟩
          · have := HPA.out.wr.1; exact ⟨by omega, .inr hi⟩)
        have T10 := T9.set3 (tk' := fun i => tk i ∨ wr.heap.size ≤ i) sY' (p := (a2 : Int)) (q := (s2 : Int)) rfl rfl
        have Tw10 := (((Trn.of b x9).set 0 (.slice Y ky ey)).set 1 (.int .i64 (a2 : Int))).set 2 (.int .i64 (s2 : Int))
        generalize (((w9.setCell ⟨b, 0, none⟩ (.slice Y ky ey)).setCell ⟨b, 1, none⟩ (.int .i64 (a2 : Int))).setCell ⟨b, 2, none⟩ (.int .i64 (s2 : Int))) = w10 at *
        have TR10 := hTr.trans Tw10
        have O10 := HO.trn hb3 Tw10
        have hs10 := Tw10.size
        have hly := sY'.len; have hcy := sY'.cap; have hmy := sY'.max
        clear sY sY' T9 g0 g1 g2 gz gl HGo hx9 hfin x9
        have q0 := T10.c0; have il := T10.wr.1; have ine := Nat.ne_of_lt il
        have xe := (Ext.refl w10).alloc (.cells #[] 21)
        have o0 := OwnR.empty rRune 21 1 w10.heap.size w10 (Nat.le_refl _)
        have hs1 := fun W => run_cut_l T_rune Y ky ey (a : Int) a rfl (by omega) W
        have HS := Lib.hid (((T10.ext xe).runes).drop (lo := a) (by omega))
        rw [HTL.out] at HS
        go_wp2_with (first
          | (at_builtin
             refine wpList_appS T_rune (by omega) rfl (.tmp 123) (.tmp 127) rfl rfl o0 rfl HS.out (fun _ _ h => h) one_rune (keep_rune bot) (bot_no _) ?_ xe.size ?_
             · simp; omega
             intro v11 w11 o11 g11 hat11
             simp only [List.nil_append] at o11
             have x11 := xe.app g11 o0
             obtain ⟨AV, cV, rfl, sV⟩ := o11.sl
             have hs11 : w10.heap.size ≤ w11.heap.size := x11.size
             have X12 := (Ext.refl w11).alloc (.cells #[.slice AV tl.length cV] 23)
             have O12 := (O10.ext hb3 x11).ext hb3 X12
             have sV' : SlR rRune 1 (fun i => w10.heap.size ≤ i ∧ i < w11.heap.size) w11 AV tl.length cV tl := SlR.lt (by omega) sV
             have hbase : w3.heap.size ≤ (w11.alloc (.cells #[.slice AV tl.length cV] 23)).heap.size := by simp; omega)
          | (at_builtin
             obtain ⟨ok, OW, ht1, ht2, ht3⟩ := O12.more (tk := fun i => w10.heap.size ≤ i ∧ i < w11.heap.size) (fun i hi => ⟨by omega, by simp; omega, fun g hg => by have := (HO.lt g hg).2; omega⟩)
             refine wpList_appS T_text (by omega) rfl (.tmp 122) (.tmp 129) rfl rfl OW rfl (text_one 23 sV') (fun vs x ⟨A, n, c, e, hs⟩ => ⟨A, n, c, e, hs.mono (fun _ _ h => h) ht1⟩) (one_sl _ _ _) (keep_sl (keep_rune ok)) ht3 ?_ hbase ?_
             · rw [HOL.out]; omega
             intro v13 w13 o13 g13 hat13
             have T313 := ((TR10.ext x11).ext X12).app g13 (fun g hg => (HO.lt g hg).1)
             have z0 := T313.cell v0 hrb; have z1 := T313.cell v1 hrb; have zz := (T313.wr wa3 hrb).2; have zl := (T313.wr wa3 hrb).1))
        have O13 : OutR 23 b w3.heap.size w13 v13 (out ++ [tl]) := OutR.shut o13 ht2 ht3 g13 hat13
        obtain ⟨AF, cF, rfl, sF⟩ := O13.texts
        refine bodyPost_ret (v := .tuple #[.slice AF (out ++ [tl]).length cF, .int .i64 ((m - a : Nat) : Int), .agg #[.int .i64 0, .int .i64 0]]) (by simp [results, Try.results43, go_sem, z0, z1]) rfl ?_
        refine ⟨⟨AF, cF, ((m - a : Nat) : Int), ?_, ?_⟩, ext_set (ext_set (Trn.run E3 hwb T313) (Nat.le_refl _) _ _) (Nat.le_refl _) _ _⟩
        · rw [HW.out.1, HW.out.2]; rfl
        · rw [HW.out.2]; exact texts_over2 sF z0 z1
      · have HW' := feed_bad HR.out (by rw [hkl.out]; exact hk) hfe hfl h0
        rw [hkl.out] at HW'
        have HW := Lib.hid HW'
        have hn0 : (er != 0) = true := by simpa using h0
        clear hge hfe hfl h0 r0 r1 rz rl HW'
        go_wp2_with (go_at_call 101; refine HGo.out.mono ?_; rintro x w9 ⟨hx9, x9⟩; obtain ⟨Y, ky, ey, a', s', rfl, _⟩ := hx9.of HG8.out; have T9 := HPA.out.ext x9; have g0 := T9.c0; have g1 := T9.c1; have g2 := T9.c2; have gz := T9.wr.2; have gl := T9.wr.1; have T39 := hTr.ext x9; have r0 := T39.cell v0 hrb; have r1 := T39.cell v1 hrb; have rz := (T39.wr wa3 hrb).2; have rl := (T39.wr wa3 hrb).1; have hrb' := hrb.symm)
        refine bodyPost_ret (v := .tuple #[.slice none 0 0, .int .i64 0, .agg #[.int .i64 er, .int .i64 j]]) (by simp [results, Try.results43, go_sem, r0, r1, hrb, hrb']) rfl ?_
        exact ⟨⟨none, 0, 0, by rw [HW.out.1, HW.out.2]; rfl, by rw [HW.out.2]; exact SlR.nil _ _ _ _ _ _ (by unfold maxLen; omega)⟩, by repeat (first | exact ER.trans x9 | refine ext_set ?_ (by omega) _ _)⟩

include h hT in
theorem refFeedT_any : Calls Try.prog 43 #[.slice A n c, .slice T k e, .bool true] w fun x w' => RFeedV l cs w' x ∧ Ext w w' := by
  by_cases hr : (wrongRules l).1 = 0
  · by_cases hk : 200 < k
    · have hw := wait_many hr (cs := cs) (by rw [hT.len]; exact hk)
      exact (refFeed_many A n c l T k e w h true hr hk).mono fun x w' hx => ⟨hx.1 ▸ ⟨none, 0, 0, by rw [hw.2.2.1, hw.2.2.2]; rfl, by rw [hw.2.2.2]; exact SlR.nil _ _ _ _ _ _ (by unfold maxLen; omega)⟩, hx.2⟩
    · exact refFeed_true A n c l T k e cs w h hT hr hk
  · have hw := wait_rules (cs := cs) hr
    exact (refFeed_bad A n c l T k e w h true hr).mono fun x w' hx => ⟨hx.1 ▸ ⟨none, 0, 0, by rw [hw.2.2.1, hw.2.2.2]; rfl, by rw [hw.2.2.2]; exact SlR.nil _ _ _ _ _ _ (by unfold maxLen; omega)⟩, hx.2⟩

include h hT in
theorem refFeedF_any : Calls Try.prog 43 #[.slice A n c, .slice T k e, .bool false] w fun x w' => x = .returned (.tuple #[.slice none 0 0, .int .i64 (waitN l cs), .agg #[.int .i64 (waitF l cs).1, .int .i64 (waitF l cs).2]]) ∧ Ext w w' := by
  by_cases hr : (wrongRules l).1 = 0
  · by_cases hk : 200 < k
    · have hw := wait_many hr (cs := cs) (by rw [hT.len]; exact hk)
      rw [hw.1, hw.2.1]
      exact refFeed_many A n c l T k e w h false hr hk
    · exact refFeed_false A n c l T k e cs w h hT hr hk
  · have hw := wait_rules (cs := cs) hr
    rw [hw.1, hw.2.1]
    exact refFeed_bad A n c l T k e w h false hr
end

end Go.Proofs.Ytfdkbhbnldcbmaa
