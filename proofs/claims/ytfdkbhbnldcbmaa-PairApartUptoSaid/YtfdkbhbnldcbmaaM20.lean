/- Walk of the law PairUndoes. -/
import Derived.Test.YtfdkbhbnldcbmaaW77
import Derived.Test.YtfdkbhbnldcbmaaW16b
namespace Go.Proofs.Ytfdkbhbnldcbmaa
open Go.RowKit
set_option linter.unusedVariables false
set_option linter.unusedSimpArgs false

/-- runes are where they were behind a store over a number -/
theorem SlR.overNum {ok : Nat → Prop} {w : World} {A : Option Addr} {n c : Nat} {l : List Int} {B o : Nat} {v : Int} {u : Value} (h : SlR rRune 1 ok w A n c l) (hc : w.cell? ⟨B, o, none⟩ = some (.int .i64 v)) :
    SlR rRune 1 ok (w.setCell ⟨B, o, none⟩ u) A n c l :=
  ⟨h.len, h.cap, h.max, fun k x hx => by
    obtain ⟨b, off, vs, e, ho, hl, hr, hcs⟩ := h.at_ k x hx
    refine ⟨b, off, vs, e, ho, hl, hr, fun j y hy => ?_⟩
    have h1 := hcs j y hy
    rw [World.cell?_setCell_other]
    · exact h1
    · intro e2
      rw [e2, h1] at hc
      obtain ⟨rfl, _⟩ := hr
      match j, hy with
      | 0, hy => simp at hy; subst hy; simp at hc⟩
theorem Wr.new2 (w : World) (cs : Array Value) (t : TypeId) {B : Nat} (hB : w.heap.size = B) : Wr (w.alloc (.cells cs t)) B := by subst hB; exact Wr.new w cs t

section
variable (A : Option Addr) (n c : Nat) (f : List Rule) (A' : Option Addr) (n' c' : Nat) (b : List Rule) (B : Option Addr) (m d : Nat) (ds : List Sp) (X : Option Addr) (p q : Nat) (t : List Int) (w : World) (hf : Rules w A n c f) (hb : Rules w A' n' c' b) (hd : Spans w B m d ds) (ht : Runes w X p q t)

set_option maxRecDepth 100000 in
set_option maxHeartbeats 800000 in
include hf hb hd in
theorem PairUndoes_no (hv : pairV f b ds = false) : Calls Try.prog 12 #[.slice A n c, .slice A' n' c', .slice B m d, .slice X p q] w fun e w' => e = .returned (.bool true) ∧ Ext w w' := by
  have C1 := Lib.hid (alive14_any w)
  have C2 := Lib.hid (fun W (e : Ext w W) => pairSure_any A n c f A' n' c' b B m d ds W (hf.ext e) (hb.ext e) (hd.ext e))
  unfold SureR at C2
  rw [hv] at C2
  clear hf hb hd hv
  by_cases hx : pairE f b ds = 0
  · rw [hx] at C2
    go_enter Try.func12, Try.ntmps12
    go_wp2_with (first
      | (go_at_call 50; refine C1.out.mono ?_; rintro e w1 ⟨rfl, x1⟩)
      | (go_at_call 48; refine (C2.out _ x1).mono ?_; rintro e w2 ⟨rfl, x2⟩))
    go_ret
    exact ⟨rfl, x1.trans x2⟩
  · have hn : (pairE f b ds != 0) = true := by simpa using hx
    generalize pairE f b ds = v at *
    go_enter Try.func12, Try.ntmps12
    go_wp2_with (first
      | (go_at_call 50; refine C1.out.mono ?_; rintro e w1 ⟨rfl, x1⟩)
      | (go_at_call 48; refine (C2.out _ x1).mono ?_; rintro e w2 ⟨rfl, x2⟩))
    go_ret
    exact ⟨rfl, x1.trans x2⟩

set_option maxRecDepth 100000 in
set_option maxHeartbeats 1600000 in
include hf hb hd ht in
theorem PairUndoes_yes (hv : pairV f b ds = true) : Calls Try.prog 12 #[.slice A n c, .slice A' n' c', .slice B m d, .slice X p q] w fun e w' => e = .returned (.bool true) ∧ Ext w w' := by
  have C1 := Lib.hid (alive14_any w)
  have C2 := Lib.hid (fun W (e : Ext w W) => pairSure_any A n c f A' n' c' b B m d ds W (hf.ext e) (hb.ext e) (hd.ext e))
  unfold SureR at C2
  obtain ⟨hE, hW, hG⟩ : pairE f b ds = 0 ∧ wrongSet ds = 0 ∧ True := by
    obtain ⟨h0, h1, h2, _⟩ := pairV_parts hv
    refine ⟨?_, h2, trivial⟩
    unfold pairV at hv
    simp only [Bool.and_eq_true, decide_eq_true_eq] at hv
    exact hv.1.1
  clear hG
  rw [hv, hE] at C2
  have C3 := Lib.hid (fun W x (e : Ext w W) => setsHas_any B m d ds x W (hd.ext e) hW)
  have C4 := Lib.hid (fun W (e : Ext w W) => Run_any A n c f X p q t W (hf.ext e) (ht.ext e))
  have C5 := Lib.hid (fun W (e : Ext w W) A1 n1 c1 u (hu : Runes W A1 n1 c1 u) => Run_any A' n' c' b A1 n1 c1 u W (hb.ext e) hu)
  unfold RunR at C4 C5
  have HL := Lib.hid (fun h => undone_law hv (t := t) h)
  have HT := Lib.hid ht
  have hcap := ht.cap; have hmax := ht.max; unfold maxLen at hmax
  have hlen := Lib.hid ht.len
  clear hf hb hd hv hE hW ht
  go_enter Try.func12, Try.ntmps12
  go_wp2_with (first
    | (go_at_call 50; refine C1.out.mono ?_; rintro e w1 ⟨rfl, x1⟩)
    | (go_at_call 48; refine (C2.out _ x1).mono ?_; rintro e w2 ⟨rfl, x2⟩; have e2 := x1.trans x2))
  go_loopw [33] (fun i wr => ∃ k : Nat, k ≤ p ∧ i = .int .i64 k ∧ Hid (∀ x ∈ t.take k, has ds x = true) ∧ Ext w wr) (fun i _ => p - (intOf i).toNat)
  case atStart => exact ⟨0, by omega, rfl, Lib.hid (by simp), e2⟩
  case round =>
    obtain ⟨k, hk, rfl, HK, hx⟩ := hrel
    by_cases hlt : k < p
    · obtain ⟨x, hxx⟩ := HT.out.idx hlt
      obtain ⟨b0, off, rfl, _, hc, hi1, hi2⟩ := (HT.out.ext hx).rune hxx
      have HC := Lib.hid (C3.out wr x hx)
      have HTK := Lib.hid (take_snoc hxx)
      clear hxx
      cases hh : has ds x
      · rw [hh] at HC
        go_wp2_with (go_at_call 51; refine HC.out.mono ?_; rintro e w5 ⟨rfl, x5⟩)
        go_ret
        exact ⟨rfl, hx.trans x5⟩
      · have HQ : Hid (∀ y ∈ t.take (k + 1), has ds y = true) := Lib.hid (by
          rw [HTK.out]; intro y hy
          rcases List.mem_append.1 hy with hy | hy
          · exact HK.out y hy
          · simp at hy; subst hy; exact hh)
        rw [hh] at HC
        clear hh
        go_wp2_with (go_at_call 51; refine HC.out.mono ?_; rintro e w5 ⟨rfl, x5⟩)
        go_roundw
        case rel => exact ⟨k + 1, by omega, by go_num, HQ, hx.trans x5⟩
        case measure => simp [intOf]; omega
    · have hL := HL.out (by have := HK.out; rwa [take_all hlen.out (by omega)] at this)
      clear HL HK C1 C2 C3
      have C4 := Lib.hid (C4.out wr hx)
      generalize (runAll f t).steps = st at *
      generalize (runAll f t).put = pt at *
      generalize (runAll f t).text = tx at *
      rcases hL with hL | ⟨r1, r2, r3⟩
      · generalize (runF f t).2 = y at *
        generalize (runF f t).1 = x at *
        rcases hL with rfl | rfl
        · go_wp2_with (first
            | (go_at_call 36; refine C4.out.mono ?_; rintro e w6 ⟨⟨A1, n1, c1, rfl, hA⟩, x6⟩; have e6 := ((hx.trans x6).alloc (.cells #[.slice A1 n1 c1, .int .i64 st, .int .i64 pt] 45)).alloc (.cells #[.int .i64 4, .int .i64 y] 38)))
          go_ret
          exact ⟨rfl, e6⟩
        · go_wp2_with (first
            | (go_at_call 36; refine C4.out.mono ?_; rintro e w6 ⟨⟨A1, n1, c1, rfl, hA⟩, x6⟩; have e6 := ((hx.trans x6).alloc (.cells #[.slice A1 n1 c1, .int .i64 st, .int .i64 pt] 45)).alloc (.cells #[.int .i64 3, .int .i64 y] 38)))
          go_ret
          exact ⟨rfl, e6⟩
      · rw [r1] at C4
        have C5 := Lib.hid (fun W e A1 n1 c1 => C5.out W e A1 n1 c1 tx)
        simp only [r2, r3] at C5
        clear r1 r2 r3
        generalize (runAll b tx).steps = st2 at *
        generalize (runAll b tx).put = pt2 at *
        go_wp2_with (first
          | (go_at_call 36
             (with_reducible refine C4.out.mono ?_)
             rintro e w6 ⟨⟨A1, n1, c1, rfl, hA⟩, x6⟩
             have e6 := ((hx.trans x6).alloc (.cells #[.slice A1 n1 c1, .int .i64 st, .int .i64 pt] 45)).alloc (.cells #[.int .i64 0, .int .i64 0] 38)
             have d6 := ((Ext.refl w6).alloc (.cells #[.slice A1 n1 c1, .int .i64 st, .int .i64 pt] 45)).alloc (.cells #[.int .i64 0, .int .i64 0] 38)
             have W6 := Wr.new2 (w6.alloc (.cells #[.slice A1 n1 c1, .int .i64 st, .int .i64 pt] 45)) #[.int .i64 0, .int .i64 0] 38 (B := w6.heap.size + 1) (by simp)
             have I0 := Lib.hid (cell_new2 (w6.alloc (.cells #[.slice A1 n1 c1, .int .i64 st, .int .i64 pt] 45)) #[.int .i64 0, .int .i64 0] 38 0 (.int .i64 0) rfl (B := w6.heap.size + 1) (by simp))
             have I1 := Lib.hid (cell_new2 (w6.alloc (.cells #[.slice A1 n1 c1, .int .i64 st, .int .i64 pt] 45)) #[.int .i64 0, .int .i64 0] 38 1 (.int .i64 0) rfl (B := w6.heap.size + 1) (by simp)))
          | (go_at_call 36
             (with_reducible refine (C5.out _ e6 A1 n1 c1 (Runes.ext hA d6)).mono ?_)
             rintro e w8 ⟨⟨A2, n2, c2, rfl, hB⟩, x8⟩
             have q0 := x8.cell I0.out
             have q1 := x8.cell I1.out
             have qz := (W6.ext x8).2
             have ql := W6.lt x8
             have ne6 := Nat.ne_of_lt ql
             have ne6s := ne6.symm
             have hb6 : w.heap.size ≤ w6.heap.size + 1 := by have := (hx.trans x6).size; omega
             have e8 := (ext_set (ext_set (Ext.trans e6 x8) hb6 0 (.int .i64 0)) hb6 1 (.int .i64 0)).alloc (.cells #[.slice A2 n2 c2, .int .i64 st2, .int .i64 pt2] 45)
             have hB2 := SlR.overNum (u := .int .i64 0) (SlR.overNum (u := .int .i64 0) hB q0) (set_other (o' := 0) (v := .int .i64 0) q1 (by omega))
             have hB3 := Runes.ext hB2 ((Ext.refl _).alloc (.cells #[.slice A2 n2 c2, .int .i64 st2, .int .i64 pt2] 45)))
          | (go_at_call 30; refine (Same_any _ _ _ _ _ _ _ _ _ hB3 (HT.out.ext e8)).mono ?_; rintro e w9 ⟨rfl, x9⟩; simp only [decide_true]))
        go_ret
        exact ⟨rfl, e8.trans x9⟩

include hf hb hd ht in
theorem PairUndoes_any : Calls Try.prog 12 #[.slice A n c, .slice A' n' c', .slice B m d, .slice X p q] w fun e w' => e = .returned (.bool true) ∧ Ext w w' := by
  cases hv : pairV f b ds
  · exact PairUndoes_no A n c f A' n' c' b B m d ds X p q w hf hb hd hv
  · exact PairUndoes_yes A n c f A' n' c' b B m d ds X p q t w hf hb hd ht hv
end

end Go.Proofs.Ytfdkbhbnldcbmaa
