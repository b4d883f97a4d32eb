/- Walk: the document's operators of sets (Do). -/
import Derived.Test.YtfdkbhbnldcbmaaW43
import Derived.Deep.RegionHeld3
namespace Go.Proofs.Ytfdkbhbnldcbmaa
open Go.RowKit
set_option linter.unusedVariables false
set_option linter.unusedSimpArgs false

/-- '!Has(a, r)', a captured -/
theorem doNotAt_any (B : Nat) (A : Option Addr) (n c : Nat) (l : List Sp) (r : Int) (w : World) (h : Spans w A n c l) (h0 : w.cell? ⟨B, 0, none⟩ = some (.slice A n c)) :
    Calls Try.prog 128 #[.int .i32 r, .pointer (some ⟨B, 0, none⟩)] w fun e w' => e = .returned (.bool (!has l r)) ∧ Ext w w' := by
  have HC := Lib.hid (refHas_any A n c l r w h)
  go_enter Try.func128, Try.ntmps128
  go_wp2_with (go_at_call 62; refine HC.out.mono ?_; rintro e w1 ⟨rfl, x1⟩)
  go_ret
  exact ⟨rfl, x1⟩

/-- the operator's two sets -/
def opF (o : Int) (x y : Bool) : Bool := if o = 124 then x || y else if o = 38 then x && y else x && !y

set_option maxRecDepth 100000 in
set_option maxHeartbeats 1600000 in
theorem doAt_any (o : Int) (ho : o = 124 ∨ o = 38 ∨ o = 45) (B1 B2 B3 : Nat) (A : Option Addr) (n c : Nat) (a : List Sp) (X : Option Addr) (m d : Nat) (b : List Sp) (r : Int) (w : World) (hA : Spans w A n c a) (hB : Spans w X m d b)
    (h1 : w.cell? ⟨B1, 0, none⟩ = some (.slice A n c)) (h2 : w.cell? ⟨B2, 0, none⟩ = some (.slice X m d)) (h3 : w.cell? ⟨B3, 0, none⟩ = some (.int .u8 o)) :
    Calls Try.prog 129 #[.int .i32 r, .pointer (some ⟨B1, 0, none⟩), .pointer (some ⟨B2, 0, none⟩), .pointer (some ⟨B3, 0, none⟩)] w fun e w' => e = .returned (.bool (opF o (has a r) (has b r))) ∧ Ext w w' := by
  have HA := Lib.hid (fun W (e : Ext w W) => refHas_any A n c a r W (hA.ext e))
  have HB := Lib.hid (fun W (e : Ext w W) => refHas_any X m d b r W (hB.ext e))
  generalize has a r = x at *
  generalize has b r = y at *
  have e0 := (Ext.refl w).drew
  go_enter Try.func129, Try.ntmps129
  go_wp2_with fail
  go_region_held3 (fun w' => w'.cell? ⟨B1, 0, none⟩ = some (.slice A n c) ∧ w'.cell? ⟨B2, 0, none⟩ = some (.slice X m d))
    (first | go_keep | exact ⟨p1, p2⟩ | exact ⟨q1, q2⟩)
    (first
      | (go_at_call 62; ((with_reducible refine (HA.out _ e0).mono ?_); rintro e w1 ⟨rfl, x1⟩; have e1 := e0.trans x1; have p1 := e1.cell h1; have p2 := e1.cell h2))
      | (go_at_call 62; ((with_reducible refine (HB.out _ e1).mono ?_); rintro e w2 ⟨rfl, x2⟩; have e2 := e1.trans x2; have q1 := e2.cell h1; have q2 := e2.cell h2)))
  have q3 := e2.cell h3
  clear p1 p2 q1 q2 HA HB h1 h2 h3 hA hB
  rcases ho with rfl | rfl | rfl
  all_goals
    cases x <;> cases y
    all_goals
      go_wp2
      go_ret
      exact ⟨rfl, e2⟩

theorem setOut_err {e : Int} {s : List Sp} (h : e ≠ 0) : setOut e s = ([], e) := setOut_bad h

set_option maxRecDepth 100000 in
set_option maxHeartbeats 4000000 in
theorem refNot_any (A : Option Addr) (n c : Nat) (a : List Sp) (w : World) (hA : Spans w A n c a) (Y : Option Addr) (m d : Nat) :
    Calls Try.prog 66 #[.int .u8 94, .slice A n c, .slice Y m d] w fun e w' => SetO (setOut (wrongSets [a]) (notL a)) w' e ∧ Ext w w' := by
  have hmf : ∀ (fn : Fn) (first cap : Array Value) (w : World), (Instr.makeFunc fn first cap).run Try.prog w = .ok (.func fn first cap) w := fun _ _ _ _ => rfl
  have eg : ∀ args w, (callFunc 128 args).run Try.prog w = .ok (.enter 128 args) w := enters Try.func128 (by kernel_rfl) rfl
  rw [wrongSets_one]
  obtain ⟨W3, hW3⟩ : ∃ W3 : World, W3 = ((w.alloc (.cells #[.int .u8 94] 5)).alloc (.cells #[.slice A n c] 67)).alloc (.cells #[.slice Y m d] 67) := ⟨_, rfl⟩
  have e3 : Ext w W3 := by rw [hW3]; exact (((Ext.refl w).alloc _).alloc _).alloc _
  have k1 : Hid (W3.cell? ⟨w.heap.size + 1, 0, none⟩ = some (.slice A n c)) := Lib.hid (by
    have := ((Ext.refl _).alloc (.cells #[.slice Y m d] 67)).cell (cell_new (w.alloc (.cells #[.int .u8 94] 5)) #[.slice A n c] 67 0 (.slice A n c) rfl)
    rw [World.size_alloc] at this
    rw [hW3]; exact this)
  have k1' : W3.cell? ⟨w.heap.size + 1, 0, none⟩ = some (.slice A n c) := k1.out
  have k0 : W3.cell? ⟨w.heap.size, 0, none⟩ = some (.int .u8 94) := by
    rw [hW3]; exact (((Ext.refl _).alloc _).alloc _).cell (cell_new w #[.int .u8 94] 5 0 (.int .u8 94) rfl)
  have HC := Lib.hid (refSetWrong_any A n c a W3 (hA.ext e3))
  by_cases hz : wrongSet a = 0
  · have G := good_of hz
    have HQ : Hid (setOut 0 (buildL (fun r => !has a r) (edgesOf a [0]) []) = setOut 0 (notL a)) := Lib.hid (by rw [← refNot_eq G]; rfl)
    have HED := Lib.hid (fun W (e : Ext w W) => Edges_any _ 1 1 [a] _ (sets_one 67 (hA.ext e)) (fun s hs x hx => good_ok G x (by simp at hs; subst hs; exact hx)))
    have HBD := Lib.hid (fun W (e : Ext W3 W) X m d (hX : Runes W X m d (edgesOf a [0])) =>
      Build_any X m d (edgesOf a [0]) 128 #[.pointer (some ⟨w.heap.size + 1, 0, none⟩)] (fun r => !has a r) W hX (edge0_one.of (good_ok G)).edge eg
        (fun W' r e' hr => doNotAt_any (w.heap.size + 1) A n c a r W' (hA.ext (e3.trans (e.trans e'))) ((e.trans e').cell k1.out)))
    rw [hz] at HC ⊢
    clear eg hz G
    go_enter Try.func66, Try.ntmps66
    go_wp2_with fail
    rw [← hW3]
    clear hW3
    go_wp2_with (first
      | (go_at_call 56; refine HC.out.mono ?_; rintro e w4 ⟨rfl, x4⟩; have k4 := x4.cell k1.out; have k40 := x4.cell k0)
      | (go_at_call 123; refine (HED.out _ (e3.trans x4)).mono ?_; rintro e w5 ⟨v, rfl, o5, x5⟩; obtain ⟨A5, c5, rfl, s5⟩ := o5.top; have x5a := x4.trans (((Ext.refl w4).alloc (.cells #[.slice A n c] 67)).trans x5); generalize hm5 : (edgesAll [a] [0]).length = m5 at *; clear hm5)
      | (go_at_call 122; refine (HBD.out _ x5a A5 m5 c5 s5).mono ?_; rintro e w6 ⟨h6, x6⟩; rw [HQ.out] at h6; obtain ⟨A6, c6, rfl, s6⟩ := h6))
    go_ret2
    exact ⟨⟨A6, c6, rfl, s6⟩, (e3.trans x5a).trans x6⟩
  · have HV := Lib.hid (setOut_bad (s := notL a) hz)
    have hb : (wrongSet a != 0) = true := by simpa using hz
    clear hz eg
    generalize wrongSet a = q at *
    go_enter Try.func66, Try.ntmps66
    go_wp2_with fail
    rw [← hW3]
    clear hW3
    go_wp2_with (go_at_call 56; refine HC.out.mono ?_; rintro e w4 ⟨rfl, x4⟩)
    go_ret2
    exact ⟨SetR.pair HV.out (SetR.no rfl rfl), e3.trans x4⟩

end Go.Proofs.Ytfdkbhbnldcbmaa
