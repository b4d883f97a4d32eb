/- Walks: the document's Of and Sub. -/
import Derived.Test.YtfdkbhbnldcbmaaW41
import Derived.Test.YtfdkbhbnldcbmaaW42
import Derived.Test.YtfdkbhbnldcbmaaW2b
namespace Go.Proofs.Ytfdkbhbnldcbmaa
open Go.RowKit
set_option linter.unusedVariables false
set_option linter.unusedSimpArgs false

/-- 'Has(l, r)', l captured -/
theorem ofAt_any (B : Nat) (A : Option Addr) (n c : Nat) (l : List Sp) (r : Int) (w : World) (h : Spans w A n c l) (h0 : w.cell? ⟨B, 0, none⟩ = some (.slice A n c)) :
    Calls Try.prog 124 #[.int .i32 r, .pointer (some ⟨B, 0, none⟩)] w fun e w' => e = .returned (.bool (has l r)) ∧ Ext w w' := by
  have HC := Lib.hid (refHas_any A n c l r w h)
  go_enter Try.func124, Try.ntmps124
  go_wp2_with (go_at_call 62; refine HC.out.mono ?_; rintro e w1 ⟨rfl, x1⟩)
  go_ret
  exact ⟨rfl, x1⟩

set_option maxRecDepth 100000 in
set_option maxHeartbeats 4000000 in
theorem refOf_any (A : Option Addr) (n c : Nat) (l : List Sp) (w : World) (h : Spans w A n c l) :
    Calls Try.prog 57 #[.slice A n c] w fun e w' => SetR (ofV l) (ofE l) w' e ∧ Ext w w' := by
  have hlen := Lib.hid h.len
  have hcap := h.cap
  have hmax := h.max
  unfold maxLen at hmax
  have hmf : ∀ (fn : Fn) (first cap : Array Value) (w : World), (Instr.makeFunc fn first cap).run Try.prog w = .ok (.func fn first cap) w := fun _ _ _ _ => rfl
  have eg : ∀ args w, (callFunc 124 args).run Try.prog w = .ok (.enter 124 args) w := enters Try.func124 (by kernel_rfl) rfl
  have e1 := (Ext.refl w).alloc (.cells #[.slice A n c] 67)
  have k0 := Lib.hid (cell_new w #[.slice A n c] 67 0 (.slice A n c) rfl)
  have HED := Lib.hid (fun W (e : Ext w W) (hok : ∀ x ∈ l, okSp x) => Edges_any _ 1 1 [l] _ (sets_one 67 (h.ext e)) (fun s hs x hx => hok x (by simp at hs; subst hs; exact hx)))
  have HBD := Lib.hid (fun W (e : Ext (w.alloc (.cells #[.slice A n c] 67)) W) X m d (hX : Runes W X m d (edgesOf l [0])) (hok : ∀ x ∈ l, okSp x) =>
    Build_any X m d (edgesOf l [0]) 124 #[.pointer (some ⟨w.heap.size, 0, none⟩)] (has l) W hX (edge0_one.of hok).edge eg
      (fun W' r e' hr => ofAt_any w.heap.size A n c l r W' (h.ext (e1.trans (e.trans e'))) ((e.trans e').cell k0.out)))
  clear eg
  go_enter Try.func57, Try.ntmps57
  go_wp2
  generalize hw1 : w.alloc (.cells #[.slice A n c] 67) = w1 at *
  clear hw1
  go_loopw [8] (fun i wr => ∃ k : Nat, k ≤ n ∧ i = .int .i64 k ∧ l.any spBad = (l.drop k).any spBad ∧ Ext w1 wr) (fun i _ => n - (intOf i).toNat)
  case atStart => exact ⟨0, by omega, rfl, rfl, Ext.refl _⟩
  case round =>
    obtain ⟨k, hk, rfl, hkk, hx⟩ := hrel
    have HK := Lib.hid hkk; clear hkk
    by_cases hlt : k < n
    · obtain ⟨x, hxx⟩ := h.idx hlt
      obtain ⟨b, off, rfl, ⟨_, hne⟩, c1, c2, xb1, xb2⟩ := (h.ext (e1.trans hx)).span hxx
      have HD := Lib.hid (drop_cons hxx); clear hxx
      have ex := hx.alloc (.cells #[.int .i32 x.lo, .int .i32 x.hi] 80)
      clear HED HBD
      cases hb : spBad x
      · have HK2 : Hid (l.any spBad = (l.drop (k + 1)).any spBad) := Lib.hid (by rw [HK.out, HD.out, List.any_cons, hb, Bool.false_or])
        have hr := spBad_no hb
        have b1 : decide (x.lo < 0) = false := by simp; omega
        have b2 : decide (1114111 < x.hi) = false := by simp; omega
        have b3 : decide (x.hi < x.lo) = false := by simp; omega
        clear hb
        go_wp2
        go_roundw
        case rel => exact ⟨k + 1, by omega, by go_num, HK2.out, ex⟩
        case measure => simp [intOf]; omega
      · obtain ⟨hE, hV⟩ := ofE_bad (l := l) (by rw [HK.out, HD.out, List.any_cons, hb, Bool.true_or])
        have HE := Lib.hid hE; have HV := Lib.hid hV
        have hr : decide (x.lo < 0) = true ∨ (decide (x.lo < 0) = false ∧ decide (x.hi < x.lo) = true) ∨ (decide (x.lo < 0) = false ∧ decide (x.hi < x.lo) = false ∧ decide (1114111 < x.hi) = true) := by
          have := spBad_yes hb
          by_cases a1 : x.lo < 0
          · exact .inl (by simpa using a1)
          · by_cases a2 : x.hi < x.lo
            · exact .inr (.inl ⟨by simpa using a1, by simpa using a2⟩)
            · exact .inr (.inr ⟨by simpa using a1, by simpa using a2, by simp; omega⟩)
        clear hb hE hV
        rcases hr with b1 | ⟨b1, b2⟩ | ⟨b1, b2, b3⟩
        all_goals
          go_wp2
          go_ret2
          exact ⟨SetR.no HV.out HE.out, e1.trans ex⟩
    · have hnb : l.any spBad = false := by rw [HK.out, drop_end hlen.out hlt]; rfl
      have HOK := Lib.hid (okAll hnb)
      have HQ : Hid (setOut 0 (buildL (has l) (edgesOf l [0]) []) = (ofV l, ofE l)) := Lib.hid (by
        show setOut 0 (refOfL l) = _
        rw [refOf_eq HOK.out]
        by_cases hbig : 200 < (ofS l).length
        · obtain ⟨hE, hV⟩ := ofE_big hnb hbig
          rw [setOut_big hbig, hE, hV]
        · obtain ⟨hE, hV⟩ := ofE_ok hnb hbig
          rw [setOut_ok hbig, hE, hV])
      have kk := hx.cell k0.out
      clear hnb HK
      go_wp2_with (first
        | (go_at_call 123; refine (HED.out _ (e1.trans hx) HOK.out).mono ?_; rintro e w2 ⟨v, rfl, o2, x2⟩; obtain ⟨A2, c2, rfl, s2⟩ := o2.top; have x2a := hx.trans (((Ext.refl wr).alloc (.cells #[.slice A n c] 67)).trans x2); generalize hm2 : (edgesAll [l] [0]).length = m2 at *; clear hm2)
        | (go_at_call 122; refine (HBD.out _ x2a A2 m2 c2 s2 HOK.out).mono ?_; rintro e w3 ⟨h3, x3⟩; rw [HQ.out] at h3; obtain ⟨A3, c3, rfl, s3⟩ := h3))
      go_ret2
      exact ⟨⟨A3, c3, rfl, s3⟩, (e1.trans x2a).trans x3⟩

set_option maxRecDepth 100000 in
set_option maxHeartbeats 4000000 in
theorem refSub_any (A : Option Addr) (n c : Nat) (a : List Sp) (B : Option Addr) (m d : Nat) (b : List Sp) (w : World) (hA : Spans w A n c a) (hB : Spans w B m d b) (ga : Good a) (gb : Good b) :
    Calls Try.prog 64 #[.slice A n c, .slice B m d] w fun e w' => e = .returned (.bool (subSet a b)) ∧ Ext w w' := by
  have HED := Lib.hid (Edges_any _ 2 2 [a, b] _ (sets_two 67 hA hB) (fun s hs x hx => by
    simp only [List.mem_cons, List.not_mem_nil, or_false] at hs
    rcases hs with rfl | rfl
    · exact good_ok ga x hx
    · exact good_ok gb x hx))
  have HS := Lib.hid (refSub_eq ga gb)
  have HHA := Lib.hid (fun W (e : Ext w W) r => refHas_any A n c a r W (hA.ext e))
  have HHB := Lib.hid (fun W (e : Ext w W) r => refHas_any B m d b r W (hB.ext e))
  have hL := (edges2_0 (good_ok ga) (good_ok gb)).edge.len
  have e1 := (Ext.refl w).alloc (.cells #[.slice A n c, .slice B m d] 67)
  clear ga gb
  go_enter Try.func64, Try.ntmps64
  go_wp2_with (go_at_call 123; refine HED.out.mono ?_; rintro e w1 ⟨v, rfl, o1, x1⟩; obtain ⟨A1, c1, rfl, s1⟩ := o1.top)
  have ex1 := e1.trans x1
  have s1 : Runes w1 A1 (edges2 a b).length c1 (edges2 a b) := s1
  have HS2 : Hid (notSubL a b (edges2 a b) = !subSet a b) := HS
  clear HED HS o1
  change (edges2 a b).length ≤ 1114112 at hL
  have hle : (edgesAll [a, b] [0]).length = (edges2 a b).length := rfl
  rw [hle]
  clear hle
  generalize edges2 a b = e2 at *
  have hm1 := s1.cap
  generalize hm2 : e2.length = m2 at *
  have hl1 := Lib.hid hm2
  clear hm2
  go_loopw [12] (fun i wr => ∃ k : Nat, k ≤ m2 ∧ i = .int .i64 k ∧ notSubL a b e2 = notSubL a b (e2.drop k) ∧ Ext w1 wr) (fun i _ => m2 - (intOf i).toNat)
  case atStart => exact ⟨0, by omega, rfl, rfl, Ext.refl _⟩
  case round =>
    obtain ⟨k, hk, rfl, hkk, hx⟩ := hrel
    have HK := Lib.hid hkk; clear hkk
    by_cases hlt : k < m2
    · obtain ⟨r, hrr⟩ := s1.idx hlt
      obtain ⟨b0, off, rfl, _, hc, hi1, hi2⟩ := (s1.ext hx).rune hrr
      have HD := Lib.hid (drop_cons hrr); clear hrr
      cases h1 : has a r
      · have HK2 : Hid (notSubL a b e2 = notSubL a b (e2.drop (k + 1))) := Lib.hid (by rw [HK.out, HD.out]; unfold notSubL; rw [List.any_cons, h1]; simp)
        have H1 := Lib.hid h1; clear h1
        go_wp2_with (go_at_call 62; (with_reducible refine (HHA.out _ (ex1.trans hx) r).mono ?_); rintro e w2 ⟨rfl, x2⟩; rw [H1.out])
        go_roundw
        case rel => exact ⟨k + 1, by omega, by go_num, HK2.out, hx.trans x2⟩
        case measure => simp [intOf]; omega
      · cases h2 : has b r
        · have HV : Hid (subSet a b = false) := Lib.hid (by
            have : notSubL a b e2 = true := by rw [HK.out, HD.out]; unfold notSubL; rw [List.any_cons, h1, h2]; simp
            rw [HS2.out] at this
            simpa using this)
          have H1 := Lib.hid h1; have H2 := Lib.hid h2; clear h1 h2
          go_wp2_with (first
            | (go_at_call 62; (with_reducible refine (HHA.out _ (ex1.trans hx) r).mono ?_); rintro e w2 ⟨rfl, x2⟩; rw [H1.out])
            | (go_at_call 62; (with_reducible refine (HHB.out _ ((ex1.trans hx).trans x2) r).mono ?_); rintro e w3 ⟨rfl, x3⟩; rw [H2.out]))
          go_ret
          rw [HV.out]
          exact ⟨rfl, ((ex1.trans hx).trans x2).trans x3⟩
        · have HK2 : Hid (notSubL a b e2 = notSubL a b (e2.drop (k + 1))) := Lib.hid (by rw [HK.out, HD.out]; unfold notSubL; rw [List.any_cons, h1, h2]; simp)
          have H1 := Lib.hid h1; have H2 := Lib.hid h2; clear h1 h2
          go_wp2_with (first
            | (go_at_call 62; (with_reducible refine (HHA.out _ (ex1.trans hx) r).mono ?_); rintro e w2 ⟨rfl, x2⟩; rw [H1.out])
            | (go_at_call 62; (with_reducible refine (HHB.out _ ((ex1.trans hx).trans x2) r).mono ?_); rintro e w3 ⟨rfl, x3⟩; rw [H2.out]))
          go_roundw
          case rel => exact ⟨k + 1, by omega, by go_num, HK2.out, (hx.trans x2).trans x3⟩
          case measure => simp [intOf]; omega
    · have HV : Hid (subSet a b = true) := Lib.hid (by
        have : notSubL a b e2 = false := by rw [HK.out, drop_end hl1.out hlt]; rfl
        rw [HS2.out] at this
        simpa using this)
      go_wp2
      go_ret
      rw [HV.out]
      exact ⟨rfl, ex1.trans hx⟩

end Go.Proofs.Ytfdkbhbnldcbmaa
