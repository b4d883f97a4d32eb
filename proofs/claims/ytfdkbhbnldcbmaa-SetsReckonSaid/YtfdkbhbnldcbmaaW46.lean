/- Walk: the document's operators of two sets. -/
import Derived.Test.YtfdkbhbnldcbmaaW45
namespace Go.Proofs.Ytfdkbhbnldcbmaa
open Go.RowKit
set_option linter.unusedVariables false
set_option linter.unusedSimpArgs false

def doL (o : Int) (a b : List Sp) : List Sp := if o = 124 then ofS (a ++ b) else if o = 38 then meetL a b else meetL a (notL b)
theorem doL_eq {o : Int} (ho : o = 124 ∨ o = 38 ∨ o = 45) {a b : List Sp} (ga : Good a) (gb : Good b) : refDoL (opF o) a b = doL o a b := by
  rcases ho with rfl | rfl | rfl
  · exact refOr_eq ga gb
  · exact refAnd_eq ga gb
  · exact refMinus_eq ga gb

set_option maxRecDepth 100000 in
set_option maxHeartbeats 4000000 in
theorem refDo2_any (o : Int) (ho : o = 124 ∨ o = 38 ∨ o = 45) (A : Option Addr) (n c : Nat) (a : List Sp) (X : Option Addr) (m d : Nat) (b : List Sp) (w : World) (hA : Spans w A n c a) (hB : Spans w X m d b) :
    Calls Try.prog 66 #[.int .u8 o, .slice A n c, .slice X m d] w fun e w' => SetO (setOut (wrongSets [a, b]) (doL o a b)) w' e ∧ Ext w w' := by
  have hmf : ∀ (fn : Fn) (first cap : Array Value) (w : World), (Instr.makeFunc fn first cap).run Try.prog w = .ok (.func fn first cap) w := fun _ _ _ _ => rfl
  have eg : ∀ args w, (callFunc 129 args).run Try.prog w = .ok (.enter 129 args) w := enters Try.func129 (by kernel_rfl) rfl
  have h94 : (o == 94) = false := by rcases ho with rfl | rfl | rfl <;> decide
  obtain ⟨W3, hW3⟩ : ∃ W3 : World, W3 = ((w.alloc (.cells #[.int .u8 o] 5)).alloc (.cells #[.slice A n c] 67)).alloc (.cells #[.slice X m d] 67) := ⟨_, rfl⟩
  have e3 : Ext w W3 := by rw [hW3]; exact (((Ext.refl w).alloc _).alloc _).alloc _
  have k1 : W3.cell? ⟨w.heap.size + 1, 0, none⟩ = some (.slice A n c) := by
    have := ((Ext.refl _).alloc (.cells #[.slice X m d] 67)).cell (cell_new (w.alloc (.cells #[.int .u8 o] 5)) #[.slice A n c] 67 0 (.slice A n c) rfl)
    rw [World.size_alloc] at this
    rw [hW3]; exact this
  have k2 : W3.cell? ⟨w.heap.size + 2, 0, none⟩ = some (.slice X m d) := by
    have := cell_new ((w.alloc (.cells #[.int .u8 o] 5)).alloc (.cells #[.slice A n c] 67)) #[.slice X m d] 67 0 (.slice X m d) rfl
    rw [World.size_alloc, World.size_alloc] at this
    rw [hW3]; exact this
  have k0 : W3.cell? ⟨w.heap.size, 0, none⟩ = some (.int .u8 o) := by
    rw [hW3]; exact (((Ext.refl _).alloc _).alloc _).cell (cell_new w #[.int .u8 o] 5 0 (.int .u8 o) rfl)
  have K0 := Lib.hid k0; have K1 := Lib.hid k1; have K2 := Lib.hid k2
  have HC := Lib.hid (refSetWrong_any A n c a W3 (hA.ext e3))
  have HD := Lib.hid (fun W (e : Ext W3 W) => refSetWrong_any X m d b W (hB.ext (e3.trans e)))
  by_cases hz : wrongSet a = 0
  · have ga := good_of hz
    rw [hz] at HC
    by_cases hy : wrongSet b = 0
    · have gb := good_of hy
      rw [hy] at HD
      have HQ : Hid (setOut 0 (buildL (fun r => opF o (has a r) (has b r)) (edges2 a b) []) = setOut (wrongSets [a, b]) (doL o a b)) := Lib.hid (by
        rw [wrongSets_ok hz, wrongSets_one, hy, ← doL_eq ho ga gb]; rfl)
      have HED := Lib.hid (fun W (e : Ext w W) => Edges_any _ 2 2 [a, b] _ (sets_two 67 (hA.ext e) (hB.ext e)) (fun s hs x hx => by
        simp only [List.mem_cons, List.not_mem_nil, or_false] at hs
        rcases hs with rfl | rfl
        · exact good_ok ga x hx
        · exact good_ok gb x hx))
      have HBD := Lib.hid (fun W (e : Ext W3 W) Y m' d' (hX : Runes W Y m' d' (edges2 a b)) =>
        Build_any Y m' d' (edges2 a b) 129 #[.pointer (some ⟨w.heap.size + 1, 0, none⟩), .pointer (some ⟨w.heap.size + 2, 0, none⟩), .pointer (some ⟨w.heap.size, 0, none⟩)] (fun r => opF o (has a r) (has b r)) W hX (edges2_0 (good_ok ga) (good_ok gb)).edge eg
          (fun W' r e' hr => doAt_any o ho (w.heap.size + 1) (w.heap.size + 2) w.heap.size A n c a X m d b r W' (hA.ext (e3.trans (e.trans e'))) (hB.ext (e3.trans (e.trans e'))) ((e.trans e').cell K1.out) ((e.trans e').cell K2.out) ((e.trans e').cell K0.out)))
      clear eg hz hy ga gb ho
      go_enter Try.func66, Try.ntmps66
      go_wp2_with fail
      rw [← hW3]
      clear hW3
      go_wp2_with (first
        | (go_at_call 56; (with_reducible refine HC.out.mono ?_); rintro e w4 ⟨rfl, x4⟩; have k40 := x4.cell k0; have k41 := x4.cell k1; have k42 := x4.cell k2)
        | (go_at_call 56; (with_reducible refine (HD.out _ x4).mono ?_); rintro e w5 ⟨rfl, x5⟩; have k50 := x5.cell k40; have k51 := x5.cell k41; have k52 := x5.cell k42; have x5b := x4.trans x5)
        | (go_at_call 123; refine (HED.out _ (e3.trans x5b)).mono ?_; rintro e w6 ⟨v, rfl, o6, x6⟩; obtain ⟨A6, c6, rfl, s6⟩ := o6.top; have x6a := x5b.trans (((Ext.refl w5).alloc (.cells #[.slice A n c, .slice X m d] 67)).trans x6); generalize hm6 : (edgesAll [a, b] [0]).length = m6 at *; clear hm6)
        | (go_at_call 122; refine (HBD.out _ x6a A6 m6 c6 s6).mono ?_; rintro e w7 ⟨h7, x7⟩; rw [HQ.out] at h7; have H7 := Lib.hid h7; obtain ⟨A7, c7, rfl, s7⟩ := h7))
      go_ret2
      exact ⟨⟨A7, c7, rfl, s7⟩, (e3.trans x6a).trans x7⟩
    · have HV : Hid (setOut (wrongSets [a, b]) (doL o a b) = ([], wrongSet b)) := Lib.hid (by rw [wrongSets_ok hz, wrongSets_one]; exact setOut_bad hy)
      have hb : (wrongSet b != 0) = true := by simpa using hy
      clear hz hy eg ga ho
      generalize wrongSet b = q at *
      go_enter Try.func66, Try.ntmps66
      go_wp2_with fail
      rw [← hW3]
      clear hW3
      go_wp2_with (first
        | (go_at_call 56; (with_reducible refine HC.out.mono ?_); rintro e w4 ⟨rfl, x4⟩; have k40 := x4.cell k0; have k41 := x4.cell k1; have k42 := x4.cell k2)
        | (go_at_call 56; (with_reducible refine (HD.out _ x4).mono ?_); rintro e w5 ⟨rfl, x5⟩))
      go_ret2
      exact ⟨SetR.pair HV.out (SetR.no rfl rfl), (e3.trans x4).trans x5⟩
  · have HV : Hid (setOut (wrongSets [a, b]) (doL o a b) = ([], wrongSet a)) := Lib.hid (by rw [wrongSets_bad hz]; exact setOut_bad hz)
    have hb : (wrongSet a != 0) = true := by simpa using hz
    clear hz eg ho HD
    generalize wrongSet a = q at *
    go_enter Try.func66, Try.ntmps66
    go_wp2_with fail
    rw [← hW3]
    clear hW3
    go_wp2_with (go_at_call 56; refine HC.out.mono ?_; rintro e w4 ⟨rfl, x4⟩)
    go_ret2
    exact ⟨SetR.pair HV.out (SetR.no rfl rfl), e3.trans x4⟩

end Go.Proofs.Ytfdkbhbnldcbmaa
