/- Walks: sets that fit; sets that are right; counting. Walk: sorted spans are put together. -/
import Derived.Test.YtfdkbhbnldcbmaaW2
import Derived.Test.YtfdkbhbnldcbmaaPl2
import Derived.Test.YtfdkbhbnldcbmaaCut
import Derived.Test.YtfdkbhbnldcbmaaLibS
import Derived.Test.YtfdkbhbnldcbmaaPlay
import Derived.RegionTactic
import Derived.StillTailTactics
import Derived.Deep.Cut
import Derived.Deep.CutRange
namespace Go.Proofs.Ytfdkbhbnldcbmaa
open Go.RowKit
set_option linter.unusedVariables false
set_option linter.unusedSimpArgs false

theorem fit_big (A : Option Addr) (n c : Nat) (w : World) (h : 200 < n) (hn : n ≤ c) (hc : c ≤ maxLen) :
    Calls Try.prog 120 #[.slice A n c] w fun e w' => e = .returned (.tuple #[.slice none 0 0, .int .i64 5]) ∧ w = w' := by
  unfold maxLen at hc
  have b : decide (200 < (n : Int)) = true := by simp; omega
  go_enter Try.func120, Try.ntmps120
  go_wp2
  go_ret2
  exact ⟨rfl, rfl⟩
theorem fit_small (A : Option Addr) (n c : Nat) (w : World) (h : ¬ 200 < n) :
    Calls Try.prog 120 #[.slice A n c] w fun e w' => e = .returned (.tuple #[.slice A n c, .int .i64 0]) ∧ w = w' := by
  have b : decide (200 < (n : Int)) = false := by simp; omega
  go_enter Try.func120, Try.ntmps120
  go_wp2
  go_ret2
  exact ⟨rfl, rfl⟩

set_option maxHeartbeats 400000 in
theorem setsRight_any (A : Option Addr) (n c : Nat) (l : List (List Sp)) (w : World) (h : Sets w A n c l) (hn : n ≤ 40) :
    Calls Try.prog 125 #[.slice A n c] w fun e w' => e = .returned (.int .i64 (wrongSets l)) ∧ Ext w w' := by
  have hlen := Lib.hid h.len
  have hcap := h.cap
  go_enter Try.func125, Try.ntmps125
  go_wp2
  go_loopw [8] (fun i wr => ∃ k : Nat, k ≤ n ∧ i = .int .i64 k ∧ wrongSets l = wrongSets (l.drop k) ∧ Ext w wr) (fun i _ => n - (intOf i).toNat)
  case atStart => exact ⟨0, by omega, rfl, rfl, Ext.refl _⟩
  case round =>
    obtain ⟨k, hk, rfl, hkk, hx⟩ := hrel
    have HK := Lib.hid hkk; clear hkk
    by_cases hlt : k < n
    · obtain ⟨s, hss⟩ := h.idx hlt
      obtain ⟨b, off, A', n', c', rfl, ⟨_, hne⟩, hc, hsl⟩ := (h.ext hx).sl hss
      have HC := Lib.hid (setsWrong_any A' n' c' s wr hsl)
      have HD := Lib.hid (drop_cons hss); clear hss hsl
      by_cases hz : wrongSet s = 0
      · have HZ := Lib.hid hz; clear hz
        go_wp2_with (go_at_call 54; refine HC.out.mono ?_; rintro e w1 ⟨rfl, hx1⟩; rw [HZ.out])
        go_roundw
        case rel => exact ⟨k + 1, by omega, by go_num, by rw [HK.out, HD.out, wrongSets_ok HZ.out], hx.trans hx1⟩
        case measure => simp [intOf]; omega
      · have HZ := Lib.hid hz
        have hb : (wrongSet s != 0) = true := by simpa using hz
        clear hz
        generalize hq : wrongSet s = q at *
        have HQ := Lib.hid hq; clear hq
        go_wp2_with (go_at_call 54; refine HC.out.mono ?_; rintro e w1 ⟨rfl, hx1⟩)
        go_ret
        rw [HK.out, HD.out, wrongSets_bad (by rw [HQ.out]; exact HZ.out), HQ.out]
        exact ⟨rfl, hx.trans hx1⟩
    · go_wp2
      go_ret
      rw [HK.out, drop_end hlen.out hlt]
      exact ⟨rfl, hx⟩

theorem sets_one {w : World} {A : Option Addr} {n c : Nat} {x : List Sp} (t : TypeId) (h : Spans w A n c x) : Sets (w.alloc (.cells #[.slice A n c] t)) (some ⟨w.heap.size, 0, none⟩) 1 1 [x] :=
  SlR.fresh rfl (by unfold maxLen; omega) fun k u hu => by
    match k, hu with
    | 0, hu => cases hu; exact ⟨[.slice A n c], rfl, ⟨A, n, c, rfl, h.ext ((Ext.refl w).alloc _)⟩, fun j v hv => by match j, hv with | 0, hv => simpa using hv⟩
theorem sets_two {w : World} {A B : Option Addr} {n c m d : Nat} {x y : List Sp} (t : TypeId) (h : Spans w A n c x) (k : Spans w B m d y) : Sets (w.alloc (.cells #[.slice A n c, .slice B m d] t)) (some ⟨w.heap.size, 0, none⟩) 2 2 [x, y] :=
  SlR.fresh rfl (by unfold maxLen; omega) fun i u hu => by
    match i, hu with
    | 0, hu => cases hu; exact ⟨[.slice A n c], rfl, ⟨A, n, c, rfl, h.ext ((Ext.refl w).alloc _)⟩, fun j v hv => by match j, hv with | 0, hv => simpa using hv⟩
    | 1, hu => cases hu; exact ⟨[.slice B m d], rfl, ⟨B, m, d, rfl, k.ext ((Ext.refl w).alloc _)⟩, fun j v hv => by match j, hv with | 0, hv => simpa using hv⟩
theorem wrongSets_one (s : List Sp) : wrongSets [s] = wrongSet s := by
  by_cases h : wrongSet s = 0
  · rw [wrongSets_ok h, h]; rfl
  · exact wrongSets_bad h

/-- how many runes -/
def countL (l : List Sp) : Int := (l.map fun x => x.hi - x.lo + 1).sum
theorem countL_snoc (l : List Sp) (x : Sp) : countL (l ++ [x]) = countL l + (x.hi - x.lo + 1) := by simp [countL]
theorem countL_cons (l : List Sp) (x : Sp) : countL (x :: l) = (x.hi - x.lo + 1) + countL l := by simp [countL]
theorem countL_bd : ∀ (l : List Sp), (∀ x ∈ l, okSp x) → 0 ≤ countL l ∧ countL l ≤ 1114112 * l.length
  | [], _ => by simp [countL]
  | x :: l, h => by
    have h1 := countL_bd l fun y hy => h y (by simp [hy])
    have h2 := h x (by simp)
    unfold okSp at h2
    rw [countL_cons, List.length_cons]
    omega
def countV (l : List Sp) : Int := if wrongSet l ≠ 0 then 0 else countL l

set_option maxRecDepth 100000 in
set_option maxHeartbeats 400000 in
theorem Count_any (A : Option Addr) (n c : Nat) (l : List Sp) (w : World) (h : Spans w A n c l) :
    Calls Try.prog 58 #[.slice A n c] w fun e w' => e = .returned (.tuple #[.int .i64 (countV l), .int .i64 (wrongSet l)]) ∧ Ext w w' := by
  have e1 := (Ext.refl w).alloc (.cells #[.slice A n c] 67)
  have HC := Lib.hid (setsRight_any _ 1 1 [l] _ (sets_one 67 h) (by omega))
  rw [wrongSets_one] at HC
  by_cases hz : wrongSet l = 0
  · have hV : Hid (countV l = countL l) := Lib.hid (by unfold countV; rw [if_neg (by simp [hz])])
    have G := good_of hz
    have hn : n ≤ 200 := by rw [← h.len]; exact G.len
    have hcap := h.cap
    have hlen := Lib.hid h.len
    rw [hz] at HC
    have HZ := Lib.hid hz; clear hz
    go_enter Try.func58, Try.ntmps58
    go_wp2_with (go_at_call 125; refine HC.out.mono ?_; rintro e w1 ⟨rfl, x1⟩)
    have ex1 := e1.trans x1
    go_loopw [5, 16] (fun s i wr => ∃ k : Nat, k ≤ n ∧ i = .int .i64 k ∧ s = .int .i64 (countL (l.take k)) ∧ Ext w wr) (fun _ i _ => n - (intOf i).toNat)
    case atStart => exact ⟨0, by omega, rfl, rfl, ex1⟩
    case round =>
      obtain ⟨k, hk, rfl, rfl, hx⟩ := hrel
      by_cases hlt : k < n
      · obtain ⟨x, hxx⟩ := h.idx hlt
        obtain ⟨b, off, rfl, ⟨_, hne⟩, k1, k2, _, _⟩ := (h.ext hx).span hxx
        have hr := G.rng x (List.mem_of_getElem? hxx)
        have hbd := countL_bd (l.take k) (fun y hy => G.rng y (List.mem_of_mem_take hy))
        rw [List.length_take, hlen.out] at hbd
        have HS : Hid (countL (l.take (k + 1)) = countL (l.take k) + (x.hi - x.lo + 1)) := Lib.hid (by rw [take_snoc hxx, countL_snoc])
        clear hxx
        obtain ⟨lo, hi⟩ := x
        simp only [] at hr k1 k2 HS
        generalize countL (l.take k) = z at *
        have hz0 : 0 ≤ z := hbd.1
        have hz1 : z ≤ 223000000 := by omega
        clear hbd
        obtain ⟨hr1, hr2, hr3⟩ := hr
        go_wp2
        go_roundw
        case rel => exact ⟨k + 1, by omega, by go_num, by rw [HS.out], hx.alloc _⟩
        case measure => simp [intOf]; omega
      · go_wp2
        go_ret2
        rw [take_all hlen.out (by omega), hV.out, HZ.out]
        exact ⟨rfl, hx⟩
  · have hV : Hid (countV l = 0) := Lib.hid (by unfold countV; rw [if_pos hz])
    have hb : (wrongSet l != 0) = true := by simpa using hz
    clear hz
    generalize wrongSet l = q at *
    go_enter Try.func58, Try.ntmps58
    go_wp2_with (go_at_call 125; refine HC.out.mono ?_; rintro e w1 ⟨rfl, x1⟩)
    go_ret2
    rw [hV.out]
    exact ⟨rfl, e1.trans x1⟩

/-- the k-th rune -/
def nthFrom : List Sp → Int → Int × Int
  | [], _ => (0, 6)
  | x :: l, k => if k < x.hi - x.lo + 1 then (x.lo + k, 0) else nthFrom l (k - (x.hi - x.lo + 1))
def nthL (l : List Sp) (k : Int) : Int × Int := if wrongSet l ≠ 0 then (0, wrongSet l) else if k < 0 then (0, 3) else nthFrom l k
theorem nthFrom_yes {x : Sp} {l : List Sp} {k : Int} (h : k < x.hi - x.lo + 1) : nthFrom (x :: l) k = (x.lo + k, 0) := by unfold nthFrom; rw [if_pos h]
theorem nthFrom_no {x : Sp} {l : List Sp} {k : Int} (h : ¬ k < x.hi - x.lo + 1) : nthFrom (x :: l) k = nthFrom l (k - (x.hi - x.lo + 1)) := by rw [nthFrom, if_neg h]

theorem pair_val {a b : Int} {k1 k2 : IntKind} {p : Int × Int} (h : p = (a, b)) : Ending.returned (.tuple #[.int k1 a, .int k2 b]) = .returned (.tuple #[.int k1 p.1, .int k2 p.2]) := by rw [h]

set_option maxRecDepth 100000 in
set_option maxHeartbeats 800000 in
theorem Nth_any (A : Option Addr) (n c : Nat) (l : List Sp) (k : Int) (w : World) (h : Spans w A n c l) (hk : i64 k) :
    Calls Try.prog 60 #[.slice A n c, .int .i64 k] w fun e w' => e = .returned (.tuple #[.int .i32 (nthL l k).1, .int .i64 (nthL l k).2]) ∧ Ext w w' := by
  have e1 := (Ext.refl w).alloc (.cells #[.slice A n c] 67)
  have HC := Lib.hid (setsRight_any _ 1 1 [l] _ (sets_one 67 h) (by omega))
  rw [wrongSets_one] at HC
  unfold i64 at hk
  by_cases hz : wrongSet l = 0
  · have G := good_of hz
    have hn : n ≤ 200 := by rw [← h.len]; exact G.len
    have hcap := h.cap
    have hlen := Lib.hid h.len
    rw [hz] at HC
    by_cases hneg : k < 0
    · have HV : Hid (nthL l k = (0, 3)) := Lib.hid (by unfold nthL; rw [if_neg (by simp [hz]), if_pos hneg])
      have hb : decide (k < 0) = true := by simpa using hneg
      clear hz hneg
      go_enter Try.func60, Try.ntmps60
      go_wp2_with (go_at_call 125; refine HC.out.mono ?_; rintro e w1 ⟨rfl, x1⟩)
      go_ret2
      exact ⟨pair_val HV.out, e1.trans x1⟩
    · have HV : Hid (nthL l k = nthFrom l k) := Lib.hid (by unfold nthL; rw [if_neg (by simp [hz]), if_neg hneg])
      have hb : decide (k < 0) = false := by simpa using hneg
      have hk0 : 0 ≤ k := by omega
      clear hz hneg
      go_enter Try.func60, Try.ntmps60
      go_wp2_with (go_at_call 125; refine HC.out.mono ?_; rintro e w1 ⟨rfl, x1⟩)
      have ex1 := e1.trans x1
      clear hb
      go_loopw [1, 20] (fun s i wr => ∃ (j : Nat) (z : Int), j ≤ n ∧ i = .int .i64 j ∧ s = .int .i64 z ∧ 0 ≤ z ∧ z ≤ 9223372036854775807 ∧ nthL l k = nthFrom (l.drop j) z ∧ Ext w wr) (fun _ i _ => n - (intOf i).toNat)
      case atStart => exact ⟨0, k, by omega, rfl, rfl, hk0, hk.2, HV.out, ex1⟩
      case round =>
        obtain ⟨j, z, hj, rfl, rfl, hz0, hz1, hkk, hx⟩ := hrel
        have HK := Lib.hid hkk; clear hkk
        by_cases hlt : j < n
        · obtain ⟨x, hxx⟩ := h.idx hlt
          obtain ⟨b, off, rfl, ⟨_, hne⟩, k1, k2, _, _⟩ := (h.ext hx).span hxx
          obtain ⟨hr1, hr2, hr3⟩ := G.rng x (List.mem_of_getElem? hxx)
          have HD := Lib.hid (drop_cons hxx); clear hxx
          obtain ⟨lo, hi⟩ := x
          simp only [] at hr1 hr2 hr3 k1 k2 HD
          by_cases ht : z < hi - lo + 1
          · have HV2 : Hid (nthL l k = (lo + z, 0)) := Lib.hid (by rw [HK.out, HD.out, nthFrom_yes ht])
            have hb : decide (z < hi - lo + 1) = true := by simpa using ht
            go_wp2
            go_ret2
            exact ⟨pair_val HV2.out, hx.alloc _⟩
          · have HV2 : Hid (nthL l k = nthFrom (l.drop (j + 1)) (z - (hi - lo + 1))) := Lib.hid (by rw [HK.out, HD.out, nthFrom_no ht])
            have hb : decide (z < hi - lo + 1) = false := by simpa using ht
            go_wp2
            go_roundw
            case rel => exact ⟨j + 1, z - (hi - lo + 1), by omega, by go_num, rfl, by omega, by omega, HV2.out, hx.alloc _⟩
            case measure => simp [intOf]; omega
        · have HV2 : Hid (nthL l k = (0, 6)) := Lib.hid (by rw [HK.out, drop_end hlen.out hlt]; rfl)
          go_wp2
          go_ret2
          exact ⟨pair_val HV2.out, hx⟩
  · have HV : Hid (nthL l k = (0, wrongSet l)) := Lib.hid (by unfold nthL; rw [if_pos hz])
    have hb : (wrongSet l != 0) = true := by simpa using hz
    clear hz
    generalize wrongSet l = q at *
    go_enter Try.func60, Try.ntmps60
    go_wp2_with (go_at_call 125; refine HC.out.mono ?_; rintro e w1 ⟨rfl, x1⟩)
    go_ret2
    exact ⟨pair_val HV.out, e1.trans x1⟩

end Go.Proofs.Ytfdkbhbnldcbmaa

namespace Go.Proofs.Ytfdkbhbnldcbmaa
open Go.RowKit
set_option linter.unusedVariables false
set_option linter.unusedSimpArgs false

/-- one span more, as the code has it: onto the last one, or behind it -/
def mergeStep (out : List Sp) (x : Sp) : List Sp := match out.getLast? with
  | none => out ++ [x]
  | some z => if x.lo ≤ z.hi + 1 then out.dropLast ++ [⟨z.lo, max z.hi x.hi⟩] else out ++ [x]
def mergeAll (out : List Sp) : List Sp → List Sp
  | [] => out
  | x :: l => mergeAll (mergeStep out x) l
theorem mergeStep_last (o : List Sp) (z x : Sp) : mergeStep (o ++ [z]) x = if x.lo ≤ z.hi + 1 then o ++ [⟨z.lo, max z.hi x.hi⟩] else o ++ [z] ++ [x] := by
  unfold mergeStep; simp
theorem mergeAll_from : ∀ (l : List Sp) (o : List Sp) (c : Sp), mergeAll (o ++ [c]) l = o ++ mergeFrom c l
  | [], o, c => rfl
  | x :: l, o, c => by
    unfold mergeAll mergeFrom
    rw [mergeStep_last]
    by_cases h : x.lo ≤ c.hi + 1
    · rw [if_pos h, if_pos h, mergeAll_from l o]
    · rw [if_neg h, if_neg h, mergeAll_from l (o ++ [c]), List.append_assoc]; rfl
theorem mergeAll_nil (l : List Sp) : mergeAll [] l = mergedL l := by
  cases l with
  | nil => rfl
  | cons x l => exact mergeAll_from l [] x
theorem mergeStep_len (out : List Sp) (x : Sp) : (mergeStep out x).length ≤ out.length + 1 := by
  unfold mergeStep
  cases out.getLast? with
  | none => simp
  | some z =>
    simp only []
    split
    · simp only [List.length_append, List.length_dropLast, List.length_cons, List.length_nil]; omega
    · simp

theorem Enc.snoc_inv {α : Type} {R : World → List Value → α → Prop} {sz : Nat} {w : World} : ∀ {xs : List Value} {l : List α} {x : α}, Enc R sz w xs (l ++ [x]) → ∃ ys vs, xs = ys ++ vs ∧ vs.length = sz ∧ R w vs x ∧ Enc R sz w ys l
  | xs, [], x, h => by
    obtain ⟨vs, r, rfl, h1, h2, h3⟩ := h
    simp only [Enc] at h3
    subst h3
    exact ⟨[], vs, by simp, h1, h2, rfl⟩
  | xs, y :: l, x, h => by
    obtain ⟨vs, r, rfl, h1, h2, h3⟩ := h
    obtain ⟨ys, vs', rfl, k1, k2, k3⟩ := Enc.snoc_inv h3
    exact ⟨vs ++ ys, vs', by simp, k1, k2, vs, ys, rfl, h1, h2, k3⟩
theorem heap_setRow {w : World} {g i : Nat} {v : Value} {cur : Array Value} {e : TypeId} {fz : Nat × Nat} (hh : w.heap[g]? = some (.cells cur e fz)) : (w.setCell ⟨g, i, none⟩ v).heap[g]? = some (.cells (cur.setIfInBounds i v) e fz) := by
  simp [World.setCell, Array.getElem?_modify, hh]
/-- a row's last element is laid anew -/
theorem OwnR.setLast {e : TypeId} {base : Nat} {w : World} {A : Option Addr} {m g c : Nat} {o : List Sp} {z : Sp} {v : Int} (h : OwnR rSpan e 2 base w (.slice A m c) (o ++ [z])) (hA : A = some ⟨g, 0, none⟩) (hv : i32 v) :
    OwnR rSpan e 2 base (w.setCell ⟨g, o.length * 2 + 1, none⟩ (.int .i32 v)) (.slice A m c) (o ++ [⟨z.lo, v⟩]) := by
  subst hA
  obtain ⟨xs, ⟨hl, hcase⟩, he⟩ := h
  obtain ⟨ys, vs, rfl, k1, ⟨rfl, k2, k3⟩, k4⟩ := he.snoc_inv
  have ky := k4.len
  have hlen : (o ++ [z]).length = o.length + 1 := by simp
  have hlen2 : (o ++ [(⟨z.lo, v⟩ : Sp)]).length = o.length + 1 := by simp
  rw [hlen] at hl hcase
  rcases hcase with ⟨hn, _⟩ | ⟨g', cap, cur, hn, hb, hh, h1, h2, h3, h4⟩
  · cases hn
  · simp only [Value.slice.injEq, Option.some.injEq, Addr.mk.injEq, and_true] at hn
    obtain ⟨rfl, rfl, rfl⟩ := hn
    have hw : Enc rSpan 2 (w.setCell ⟨g, o.length * 2 + 1, none⟩ (.int .i32 v)) ys o := k4.keep (ok := bot) (keep_span bot) (fun _ hb => hb.elim)
    refine ⟨ys ++ [.int .i32 z.lo, .int .i32 v], ⟨by rw [hlen2]; simp; omega, .inr ⟨g, c, cur.setIfInBounds (o.length * 2 + 1) (.int .i32 v), by rw [hlen2], hb, heap_setRow hh, by rw [hlen2]; exact h1, h2, by simpa using h3, ?_⟩⟩, ?_⟩
    · rw [Array.toList_setIfInBounds, hlen2, List.take_set, h4, ← ky]
      simp
    · exact hw.append (Enc.sing (by rfl) ⟨rfl, k2, hv⟩)

theorem span_new (w : World) (x : Sp) (t : TypeId) (h1 : i32 x.lo) (h2 : i32 x.hi) : Spans (w.alloc (.cells #[.int .i32 x.lo, .int .i32 x.hi] t)) (some ⟨w.heap.size, 0, none⟩) 1 1 [x] :=
  SlR.fresh rfl (by unfold maxLen; omega) fun k y hy => by
    match k, hy with
    | 0, hy => cases hy; exact ⟨[.int .i32 x.lo, .int .i32 x.hi], rfl, ⟨rfl, h1, h2⟩, fun j u hu => by match j, hu with | 0, hu => simpa using hu | 1, hu => simpa using hu⟩

theorem mergeAll_snoc : ∀ (l : List Sp) (out : List Sp) (x : Sp), mergeAll out (l ++ [x]) = mergeStep (mergeAll out l) x
  | [], out, x => rfl
  | y :: l, out, x => by rw [List.cons_append]; unfold mergeAll; exact mergeAll_snoc l _ x
theorem mergeAll_len : ∀ (l : List Sp) (out : List Sp), (mergeAll out l).length ≤ out.length + l.length
  | [], out => by simp [mergeAll]
  | y :: l, out => by
    unfold mergeAll
    have h1 := mergeAll_len l (mergeStep out y)
    have h2 := mergeStep_len out y
    simp only [List.length_cons]; omega
theorem mergeAll_ok : ∀ (l : List Sp) (out : List Sp), (∀ x ∈ l, okSp x) → (∀ x ∈ out, okSp x) → ∀ x ∈ mergeAll out l, okSp x
  | [], out, _, h => h
  | y :: l, out, hl, h => by
    unfold mergeAll
    refine mergeAll_ok l _ (fun x hx => hl x (by simp [hx])) ?_
    have hy := hl y (by simp)
    rcases List.eq_nil_or_concat out with rfl | ⟨o, z, rfl⟩
    · intro x hx; simp [mergeStep] at hx; subst hx; exact hy
    · rw [List.concat_eq_append] at h ⊢
      rw [mergeStep_last]
      have hz := h z (by simp)
      unfold okSp at hy hz
      split
      · intro x hx
        rcases List.mem_append.1 hx with hx | hx
        · exact h x (by simp [hx])
        · simp at hx; subst hx; unfold okSp; simp only []; omega
      · intro x hx
        rcases List.mem_append.1 hx with hx | hx
        · exact h x hx
        · simp at hx; subst hx; exact hy
theorem i32_of {x : Int} (h : 0 ≤ x ∧ x ≤ 1114112) : i32 x := by unfold i32; omega

theorem OwnR.loose {α : Type} {R : World → List Value → α → Prop} {e : TypeId} {sz base : Nat} {w : World} {A : Option Addr} {n c : Nat} {l : List α} (h : OwnR R e sz base w (.slice A n c) l) {g off : Nat} (hA : A = some ⟨g, off, none⟩) :
    base ≤ g ∧ ∀ i, w.frozen? ⟨g, i, none⟩ = false := by
  subst hA
  obtain ⟨xs, ⟨_, ⟨hv, _⟩ | ⟨g', cap, cur, hv, hb, hh, _⟩⟩, _⟩ := h
  · cases hv
  · cases hv
    exact ⟨hb, fun i => frozen_of_row w _ i cur e hh⟩
theorem OwnR.head {α : Type} {R : World → List Value → α → Prop} {e : TypeId} {sz base : Nat} {w : World} {A : Option Addr} {n c : Nat} {o : List α} {z : α} (h : OwnR R e sz base w (.slice A n c) (o ++ [z])) : ∃ g, A = some ⟨g, 0, none⟩ ∧ n = o.length + 1 := by
  obtain ⟨xs, ⟨_, ⟨_, hn⟩ | ⟨g', cap, cur, hn, _⟩⟩, _⟩ := h
  · simp at hn
  · cases hn; exact ⟨g', rfl, by simp⟩

set_option maxRecDepth 100000 in
set_option maxHeartbeats 1600000 in
theorem merged_any (A : Option Addr) (n c : Nat) (l : List Sp) (w : World) (h : Spans w A n c l) (hn : n * 8 ≤ 140737488353280) (hok : ∀ x ∈ l, okSp x) :
    Calls Try.prog 121 #[.slice A n c] w fun e w' => ∃ v, e = .returned v ∧ OwnR rSpan 80 2 w.heap.size w' v (mergedL l) ∧ Ext w w' := by
  have hlen := Lib.hid h.len
  have hcap := h.cap
  have OK := Lib.hid hok; clear hok
  go_enter Try.func121, Try.ntmps121
  go_wp2
  go_loopw [3, 9] (fun v i wr => ∃ k : Nat, k ≤ n ∧ i = .int .i64 k ∧ OwnR rSpan 80 2 w.heap.size wr v (mergeAll [] (l.take k)) ∧ Ext w wr) (fun _ i _ => n - (intOf i).toNat)
  case atStart => exact ⟨0, by omega, rfl, OwnR.nil _ _ _ _ _, Ext.refl _⟩
  case round =>
    obtain ⟨k, hk, rfl, ow, hx⟩ := hrel
    by_cases hlt : k < n
    · obtain ⟨x, hxx⟩ := h.idx hlt
      obtain ⟨b, off, rfl, ⟨_, hne⟩, c1, c2, xb1, xb2⟩ := (h.ext hx).span hxx
      have hokx := OK.out x (List.mem_of_getElem? hxx)
      unfold okSp at hokx
      obtain ⟨hx1, hx2, hx3⟩ := hokx
      have HT := Lib.hid (take_snoc hxx); clear hxx
      have ex := (Ext.refl wr).alloc (.cells #[.int .i32 x.lo, .int .i32 x.hi] 80)
      have hx2a := hx.alloc (.cells #[.int .i32 x.lo, .int .i32 x.hi] 80)
      have ow1 := ow.ext (keep_span bot) ex
      have hokl := mergeAll_ok (l.take k) [] (fun y hy => OK.out y (List.mem_of_mem_take hy)) (fun y hy => by simp at hy)
      have hml := mergeAll_len (l.take k) []
      rw [List.length_take, hlen.out, List.length_nil] at hml
      have HM : Hid (mergeAll [] (l.take (k + 1)) = mergeStep (mergeAll [] (l.take k)) x) := Lib.hid (by rw [HT.out, mergeAll_snoc])
      generalize mergeAll [] (l.take k) = out at *
      have X0 := Lib.hid (cell_new wr #[.int .i32 x.lo, .int .i32 x.hi] 80 0 (.int .i32 x.lo) rfl)
      have X1 := Lib.hid (cell_new wr #[.int .i32 x.lo, .int .i32 x.hi] 80 1 (.int .i32 x.hi) rfl)
      rcases List.eq_nil_or_concat out with rfl | ⟨o, z, rfl⟩
      · have HM2 : Hid (mergeAll [] (l.take (k + 1)) = [x]) := Lib.hid (by rw [HM.out]; rfl)
        obtain ⟨AO, cO, rfl, hcO, hmO⟩ := ow.form
        simp only [List.length_nil] at hcO ow1
        clear HM HT
        go_upto_region 6 with fail
        go_quiet (fail)
        generalize hw5 : (wr.alloc (.cells #[.int .i32 x.lo, .int .i32 x.hi] 80)).drewN _ = w5
        have e5 : Ext (wr.alloc (.cells #[.int .i32 x.lo, .int .i32 x.hi] 80)) w5 := by rw [← hw5]; exact (Ext.refl _).drewN _
        clear hw5
        have y0 := e5.cell X0.out; have y1 := e5.cell X1.out
        have hx6 := (hx2a.trans e5).alloc (.cells #[.int .i32 x.lo, .int .i32 x.hi] 80)
        have ow6 := ow1.ext (keep_span bot) (e5.alloc (.cells #[.int .i32 x.lo, .int .i32 x.hi] 80))
        have s6 := span_new w5 x 80 xb1 xb2
        go_wp2_with (at_builtin
                     refine wpList_appS T_span (by omega) rfl (.tmp 41) (.tmp 43) rfl rfl ow6 rfl s6 (fun _ _ h => h) one_span (keep_span bot) (bot_no _) ?_ hx6.size ?_
                     · simp
                     intro v7 w7 o7 g7 hat7
                     have g8 := hx6.app g7 ow6)
        go_roundw
        case rel => exact ⟨k + 1, by omega, by go_num, by rw [HM2.out]; exact o7, g8⟩
        case measure => simp [intOf]; omega
      · rw [List.concat_eq_append] at *
        obtain ⟨AO, cO, rfl, hcO, hmO⟩ := ow.form
        obtain ⟨g, rfl, hl1⟩ := ow.head
        obtain ⟨A9, c9, e9, s9⟩ := ow1.sl
        obtain ⟨_, _, e8, ⟨hg, _⟩, z0, z1, _, zb⟩ := s9.span (k := o.length) (x := z) (by simp)
        have hfz := (ow1.loose rfl).2
        have hbase := (ow1.loose rfl).1
        cases e9
        cases e8
        have hzz := hokl z (by simp)
        unfold okSp at hzz
        obtain ⟨hz1, hz2, hz3⟩ := hzz
        simp only [Nat.zero_add] at z0 z1
        simp only [List.length_append, List.length_cons, List.length_nil, Nat.zero_add] at ow ow1 hcO hml
        have hzw : IntKind.i32.wrap (z.hi + 1) = z.hi + 1 := IntWalk.i32_in _ (by omega)
        have hmx : i32 (max z.hi x.hi) := by unfold i32; omega
        have HM2 : Hid (mergeAll [] (l.take (k + 1)) = if x.lo ≤ z.hi + 1 then o ++ [⟨z.lo, max z.hi x.hi⟩] else o ++ [z] ++ [x]) := Lib.hid (by rw [HM.out]; exact mergeStep_last o z x)
        have q1 : (o.length : Int) < (o.length : Int) + 1 := by omega
        clear HM HT hokl s9 ow
        by_cases t : x.lo ≤ z.hi + 1
        · have t' : decide (x.lo ≤ z.hi + 1) = true := by simpa using t
          rw [if_pos t] at HM2
          go_upto_region 6 with fail
          go_quiet (fail)
          generalize hw5 : (wr.alloc (.cells #[.int .i32 x.lo, .int .i32 x.hi] 80)).drewN _ = w5
          have e5 : Ext (wr.alloc (.cells #[.int .i32 x.lo, .int .i32 x.hi] 80)) w5 := by rw [← hw5]; exact (Ext.refl _).drewN _
          clear hw5
          have y0 := e5.cell X0.out; have y1 := e5.cell X1.out
          have u0 := e5.cell z0; have u1 := e5.cell z1
          have fz : ∀ i, w5.frozen? ⟨g, i, none⟩ = false := fun i => (e5.frozen hg).trans (hfz i)
          clear z0 z1 hfz
          have ow5 := ow1.ext (keep_span bot) e5
          go_wp2_with fail
          go_region
          go_wp2
          have emx : (if z.hi < x.hi then x.hi else z.hi) = max z.hi x.hi := by split <;> omega
          rw [emx, hl1]
          have owf := (ow5.setLast rfl hmx).ext (keep_span bot) (Ext.refl _).drew
          refine ⟨⟨k + 1, by omega, by go_num, by rw [HM2.out]; exact owf, (ext_set (hx2a.trans e5) hbase _ _).drew⟩, by simp [intOf]; omega⟩
        · have t' : decide (x.lo ≤ z.hi + 1) = false := by simpa using t
          rw [if_neg t] at HM2
          go_upto_region 6 with fail
          go_quiet (fail)
          generalize hw5 : (wr.alloc (.cells #[.int .i32 x.lo, .int .i32 x.hi] 80)).drewN _ = w5
          have e5 : Ext (wr.alloc (.cells #[.int .i32 x.lo, .int .i32 x.hi] 80)) w5 := by rw [← hw5]; exact (Ext.refl _).drewN _
          clear hw5
          have y0 := e5.cell X0.out; have y1 := e5.cell X1.out
          clear z0 z1 hfz
          have hx6 := (hx2a.trans e5).alloc (.cells #[.int .i32 x.lo, .int .i32 x.hi] 80)
          have ow6 := ow1.ext (keep_span bot) (e5.alloc (.cells #[.int .i32 x.lo, .int .i32 x.hi] 80))
          have s6 := span_new w5 x 80 xb1 xb2
          rw [← hl1] at ow6
          go_wp2_with (at_builtin
                       refine wpList_app T_span rfl (.tmp 41) (.tmp 43) rfl rfl ow6 rfl s6 (fun _ _ h => h) one_span (keep_span bot) (bot_no _) ?_ ?_ hx6.size ?_
                       · rw [hl1]; omega
                       · rw [hl1]; unfold maxLen; omega
                       intro v7 w7 o7 g7 hat7
                       have g8 := hx6.app g7 ow6)
          go_roundw
          case rel => exact ⟨k + 1, by omega, by go_num, by rw [HM2.out]; exact o7, g8⟩
          case measure => simp [intOf]; omega
    · go_wp2
      go_ret
      rw [take_all hlen.out (by omega), mergeAll_nil] at ow
      exact ⟨_, rfl, ow, hx⟩

end Go.Proofs.Ytfdkbhbnldcbmaa
