/- Walks: the law's own closed fact about pairs. -/
import Derived.Test.YtfdkbhbnldcbmaaW75
import Derived.Test.YtfdkbhbnldcbmaaPl15
import Derived.Laws.IdiomStrings
namespace Go.Proofs.Ytfdkbhbnldcbmaa
open Go.RowKit
set_option linter.unusedVariables false
set_option linter.unusedSimpArgs false

/-- a rule of one rune for one -/
def rTo (r x : Int) : Rule := ⟨false, false, [], [[⟨r, r⟩]], [], [x], 1⟩
/-- how much room a text of one rune is given -/
def capOne (W : World) : Nat := grownCap W 1 0 21
theorem capOne_ok (W : World) : 1 ≤ capOne W ∧ capOne W ≤ maxLen := ⟨grownCap_ge W 1 0 _, grownCap_le_maxLen W 1 0 _ (by unfold maxLen; omega)⟩
theorem conv_one (s : ByteArray) (x : Int) (hs : Conv.runesFrom s s.size 0 #[] = #[.int .i32 x]) (W : World) :
    (convert 9 23 (.string s)).run Try.prog W = .ok (.slice (some ⟨W.heap.size, 0, none⟩) 1 (capOne W)) (W.drew.alloc (.cells (#[.int .i32 x] ++ Array.replicate (capOne W - 1) (.int .i32 0)) 21)) := by
  have h := run_runes_of_string (P := Try.prog) W 9 23 21 s Try.underlying9 Try.underlying23 Try.underlying21 (by rw [hs]; simp)
  rw [hs] at h
  exact h

theorem one_slR {α : Type} {R : World → List Value → α → Prop} {sz : Nat} {w : World} {b off c : Nat} {vs : List Value} {x : α} (hR : R w vs x) (hl : vs.length = sz) (hc1 : 1 ≤ c) (hc2 : c ≤ maxLen)
    (h : ∀ j u, vs[j]? = some u → w.cell? ⟨b, off + j, none⟩ = some u) : SlR R sz top w (some ⟨b, off, none⟩) 1 c [x] :=
  ⟨rfl, hc1, hc2, fun k y hy => by
    match k, hy with
    | 0, hy =>
      cases hy
      exact ⟨b, off, vs, rfl, trivial, hl, hR, fun j u hu => by rw [Nat.zero_mul, Nat.add_zero]; exact h j u hu⟩⟩
theorem cell_new2 (w : World) (cs : Array Value) (t : TypeId) (j : Nat) (u : Value) (h : cs[j]? = some u) {B : Nat} (hB : w.heap.size = B) : (w.alloc (.cells cs t)).cell? ⟨B, j, none⟩ = some u := by
  subst hB; exact cell_new w cs t j u h
theorem to_here (w : World) (r x : Int) (hr : i32 r) (hx : i32 x) (o1 o5 : Obj) (c4 : Nat) (h1 : 1 ≤ c4) (h2 : c4 ≤ maxLen) (vs : Array Value) {t1 t2 t3 : TypeId} :
    RuleV (((((w.alloc o1).alloc (.cells #[.int .i32 r, .int .i32 r] t1)).alloc (.cells #[.slice (some ⟨w.heap.size + 1, 0, none⟩) 1 1] t2)).alloc (.cells (#[.int .i32 x] ++ vs) t3)).alloc o5).drew.drew
      false false none 0 0 (some ⟨w.heap.size + 1 + 1, 0, none⟩) 1 1 none 0 0 (some ⟨w.heap.size + 1 + 1 + 1, 0, none⟩) 1 c4 1 (rTo r x) := by
  have e4 : Ext ((((w.alloc o1).alloc (.cells #[.int .i32 r, .int .i32 r] t1)).alloc (.cells #[.slice (some ⟨w.heap.size + 1, 0, none⟩) 1 1] t2)).alloc (.cells (#[.int .i32 x] ++ vs) t3)) (((((w.alloc o1).alloc (.cells #[.int .i32 r, .int .i32 r] t1)).alloc (.cells #[.slice (some ⟨w.heap.size + 1, 0, none⟩) 1 1] t2)).alloc (.cells (#[.int .i32 x] ++ vs) t3)).alloc o5).drew.drew := (((Ext.refl _).alloc _).drew).drew
  have e3 := ((Ext.refl (((w.alloc o1).alloc (.cells #[.int .i32 r, .int .i32 r] t1)).alloc (.cells #[.slice (some ⟨w.heap.size + 1, 0, none⟩) 1 1] t2))).alloc (.cells (#[.int .i32 x] ++ vs) t3)).trans e4
  have e2 := ((Ext.refl ((w.alloc o1).alloc (.cells #[.int .i32 r, .int .i32 r] t1))).alloc (.cells #[.slice (some ⟨w.heap.size + 1, 0, none⟩) 1 1] t2)).trans e3
  have k0 := e2.cell (cell_new2 (w.alloc o1) #[.int .i32 r, .int .i32 r] t1 0 (.int .i32 r) rfl (B := w.heap.size + 1) (by simp))
  have k1 := e2.cell (cell_new2 (w.alloc o1) #[.int .i32 r, .int .i32 r] t1 1 (.int .i32 r) rfl (B := w.heap.size + 1) (by simp))
  have s0 := e3.cell (cell_new2 ((w.alloc o1).alloc (.cells #[.int .i32 r, .int .i32 r] t1)) #[.slice (some ⟨w.heap.size + 1, 0, none⟩) 1 1] t2 0 (.slice (some ⟨w.heap.size + 1, 0, none⟩) 1 1) rfl (B := w.heap.size + 1 + 1) (by simp))
  have x0 := e4.cell (cell_new2 (((w.alloc o1).alloc (.cells #[.int .i32 r, .int .i32 r] t1)).alloc (.cells #[.slice (some ⟨w.heap.size + 1, 0, none⟩) 1 1] t2)) (#[.int .i32 x] ++ vs) t3 0 (.int .i32 x) (by rw [Array.getElem?_append_left (by simp)]; rfl) (B := w.heap.size + 1 + 1 + 1) (by simp))
  have m1 : (1 : Nat) ≤ maxLen := by unfold maxLen; omega
  generalize (((((w.alloc o1).alloc (.cells #[.int .i32 r, .int .i32 r] t1)).alloc (.cells #[.slice (some ⟨w.heap.size + 1, 0, none⟩) 1 1] t2)).alloc (.cells (#[.int .i32 x] ++ vs) t3)).alloc o5).drew.drew = W at *
  refine ⟨rfl, rfl, SlR.nil _ _ _ _ _ _ (by unfold maxLen; omega), ?_, SlR.nil _ _ _ _ _ _ (by unfold maxLen; omega), ?_, rfl, ⟨by omega, by omega⟩⟩
  · refine one_slR (vs := [.slice (some ⟨w.heap.size + 1, 0, none⟩) 1 1]) ⟨_, _, _, rfl, one_slR (vs := [.int .i32 r, .int .i32 r]) ⟨rfl, hr, hr⟩ rfl (Nat.le_refl 1) m1 ?_⟩ rfl (Nat.le_refl 1) m1 ?_
    · intro j u hu
      match j, hu with
      | 0, hu => cases hu; exact k0
      | 1, hu => cases hu; exact k1
    · intro j u hu
      match j, hu with
      | 0, hu => cases hu; exact s0
  · refine one_slR (vs := [.int .i32 x]) ⟨rfl, hx⟩ rfl h1 h2 ?_
    intro j u hu
    match j, hu with
    | 0, hu => cases hu; exact x0

set_option maxRecDepth 100000 in
set_option maxHeartbeats 800000 in
theorem to_any (r x : Int) (hr : i32 r) (hx : i32 x) (s : ByteArray) (hs : Conv.runesFrom s s.size 0 #[] = #[.int .i32 x]) (w : World) :
    Calls Try.prog 113 #[.int .i32 r, .string s] w fun e w' => ∃ A2 A4 c4, e = .returned (.agg #[.bool false, .bool false, .slice none 0 0, .slice A2 1 1, .slice none 0 0, .slice A4 1 c4, .int .i64 1]) ∧
      RuleV w' false false none 0 0 A2 1 1 none 0 0 A4 1 c4 1 (rTo r x) ∧ Ext w w' := by
  have hcv := conv_one s x hs
  have hcap := capOne_ok
  clear hs
  go_enter Try.func113, Try.ntmps113
  go_wp2
  refine bodyPost_ret (v := .agg #[.bool false, .bool false, .slice none 0 0, .slice (some ⟨w.heap.size + 1 + 1, 0, none⟩) 1 1, .slice none 0 0, .slice (some ⟨w.heap.size + 1 + 1 + 1, 0, none⟩) 1 (capOne (((w.alloc (.cells #[.bool false, .bool false, .slice none 0 0, .slice none 0 0, .slice none 0 0, .slice none 0 0, .int .i64 0] 25)).alloc (.cells #[.int .i32 r, .int .i32 r] 80)).alloc (.cells #[.slice (some ⟨w.heap.size + 1, 0, none⟩) 1 1] 67))), .int .i64 1]) (by simp [results, Try.results113, go_sem]) rfl ?_
  exact ⟨_, _, _, rfl, to_here w r x hr hx _ _ _ (hcap _).1 (hcap _).2 _, (((((((Ext.refl w).alloc _).alloc _).alloc _).alloc _).alloc _).drew).drew⟩

theorem rules_new {s f : Bool} {A1 : Option Addr} {n1 c1 : Nat} {A2 : Option Addr} {n2 c2 : Nat} {A3 : Option Addr} {n3 c3 : Nat} {A4 : Option Addr} {n4 c4 : Nat} {k : Int} {r : Rule} {w : World}
    (hv : RuleV w s f A1 n1 c1 A2 n2 c2 A3 n3 c3 A4 n4 c4 k r) (t : TypeId) :
    Rules (w.alloc (.cells #[.bool s, .bool f, .slice A1 n1 c1, .slice A2 n2 c2, .slice A3 n3 c3, .slice A4 n4 c4, .int .i64 k] t)) (some ⟨w.heap.size, 0, none⟩) 1 1 [r] := by
  refine one_slR (vs := [.bool s, .bool f, .slice A1 n1 c1, .slice A2 n2 c2, .slice A3 n3 c3, .slice A4 n4 c4, .int .i64 k]) ⟨s, f, A1, n1, c1, A2, n2, c2, A3, n3, c3, A4, n4, c4, k, rfl, hv.ext (((Ext.refl w).alloc _).agree top)⟩ rfl (Nat.le_refl 1) (by unfold maxLen; omega) ?_
  intro j u hu
  rw [Nat.zero_add]
  refine cell_new w _ t j u ?_
  rw [← hu]; simp
theorem spans_new (w : World) (a b : Int) (ha : i32 a) (hb : i32 b) (t : TypeId) {B : Nat} (hB : w.heap.size = B) : Spans (w.alloc (.cells #[.int .i32 a, .int .i32 b] t)) (some ⟨B, 0, none⟩) 1 1 [⟨a, b⟩] := by
  subst hB
  refine one_slR (vs := [.int .i32 a, .int .i32 b]) ⟨rfl, ha, hb⟩ rfl (Nat.le_refl 1) (by unfold maxLen; omega) ?_
  intro j u hu
  rw [Nat.zero_add]
  refine cell_new w _ t j u ?_
  rw [← hu]; simp
theorem alive_yes : pairV [rTo 97 98] [rTo 98 97] [⟨97, 97⟩] = true := by decide +kernel
theorem alive_no : pairV [rTo 97 98] [] [⟨97, 97⟩] = false := by decide +kernel
theorem alive_yesE : pairE [rTo 97 98] [rTo 98 97] [⟨97, 97⟩] = 0 := by decide +kernel
theorem alive_noE : pairE [rTo 97 98] [] [⟨97, 97⟩] = 0 := by decide +kernel

set_option maxRecDepth 100000 in
set_option maxHeartbeats 1600000 in
theorem alive14_any (w : World) : Calls Try.prog 50 #[] w fun e w' => e = .returned (.bool true) ∧ Ext w w' := by
  have b97 : i32 97 := ⟨by omega, by omega⟩
  have b98 : i32 98 := ⟨by omega, by omega⟩
  have T1 := Lib.hid (fun W => to_any 97 98 b97 b98 ⟨#[98]⟩ rfl W)
  have T2 := Lib.hid (fun W => to_any 98 97 b98 b97 ⟨#[97]⟩ rfl W)
  have B97 := Lib.hid b97
  clear b97 b98
  go_enter Try.func50, Try.ntmps50
  go_wp2_with (first
    | (go_at_call 113; ((with_reducible refine (T1.out w).mono ?_); rintro e w1 ⟨A2, A4, c4, rfl, v1, x1⟩; have r1 := Lib.hid (rules_new v1 25); clear v1))
    | (go_at_call 113; ((with_reducible refine (T2.out _).mono ?_); rintro e w2 ⟨A2', A4', c4', rfl, v2, x2⟩; have r2 := Lib.hid (rules_new v2 25); clear v2))
    | (go_at_call 48; ((with_reducible refine (pairSure_any _ _ _ _ _ _ _ _ _ _ _ _ _ (r1.out.ext ((x2.alloc _).alloc _)) (r2.out.ext ((Ext.refl _).alloc _)) (spans_new _ 97 97 B97.out B97.out _ (by simp))).mono ?_); rintro e w3 ⟨hs, x3⟩; unfold SureR at hs; rw [alive_yes, alive_yesE] at hs; subst hs; have y3 := ((x1.alloc _).trans ((x2.alloc _).alloc _)).trans x3; clear r1 r2 x1 x2 x3))
    | (go_at_call 113; ((with_reducible refine (T1.out _).mono ?_); rintro e w4 ⟨A2, A4, c4, rfl, v4, x4⟩; have r4 := Lib.hid (rules_new v4 25); clear v4))
    | (go_at_call 48; ((with_reducible refine (pairSure_any _ _ _ _ _ _ _ _ _ _ _ _ _ (r4.out.ext ((Ext.refl _).alloc _)) (SlR.nil _ _ _ _ none 0 (by unfold maxLen; omega)) (spans_new _ 97 97 B97.out B97.out _ (by simp))).mono ?_); rintro e w5 ⟨hs, x5⟩; unfold SureR at hs; rw [alive_no, alive_noE] at hs; subst hs; have y5 := (y3.trans ((x4.alloc _).alloc _)).trans x5; clear r4 x4 x5)))
  go_ret
  exact ⟨rfl, y5⟩

end Go.Proofs.Ytfdkbhbnldcbmaa
