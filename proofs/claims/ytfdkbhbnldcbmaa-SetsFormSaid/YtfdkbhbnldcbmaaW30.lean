/- Walks: sets that fit; sets that are right; counting. -/
import Derived.Test.YtfdkbhbnldcbmaaW2
import Derived.Test.YtfdkbhbnldcbmaaPl2
import Derived.Test.YtfdkbhbnldcbmaaCut
namespace Go.Proofs.Ytfdkbhbnldcbmaa
open Go.RowKit
set_option linter.unusedVariables false
set_option linter.unusedSimpArgs false

theorem fit_big (A : Option Addr) (n c : Nat) (w : World) (h : 200 < n) (hn : n ≤ c) (hc : c ≤ maxLen) :
    Calls Try.prog 120 #[.slice A n c] w fun e w' => e = .returned (.tuple #[.slice none 0 0, .int .i64 5]) ∧ w = w' := by
  unfold maxLen at hc
  have b : decide (200 < (n : Int)) = true := by simp; omega
  go_enter Try.func120, Try.ntmps120
  go_wp2
  go_ret2
  exact ⟨rfl, rfl⟩
theorem fit_small (A : Option Addr) (n c : Nat) (w : World) (h : ¬ 200 < n) :
    Calls Try.prog 120 #[.slice A n c] w fun e w' => e = .returned (.tuple #[.slice A n c, .int .i64 0]) ∧ w = w' := by
  have b : decide (200 < (n : Int)) = false := by simp; omega
  go_enter Try.func120, Try.ntmps120
  go_wp2
  go_ret2
  exact ⟨rfl, rfl⟩

set_option maxHeartbeats 400000 in
theorem setsRight_any (A : Option Addr) (n c : Nat) (l : List (List Sp)) (w : World) (h : Sets w A n c l) (hn : n ≤ 40) :
    Calls Try.prog 125 #[.slice A n c] w fun e w' => e = .returned (.int .i64 (wrongSets l)) ∧ Ext w w' := by
  have hlen := Lib.hid h.len
  have hcap := h.cap
  go_enter Try.func125, Try.ntmps125
  go_wp2
  go_loopw [8] (fun i wr => ∃ k : Nat, k ≤ n ∧ i = .int .i64 k ∧ wrongSets l = wrongSets (l.drop k) ∧ Ext w wr) (fun i _ => n - (intOf i).toNat)
  case atStart => exact ⟨0, by omega, rfl, rfl, Ext.refl _⟩
  case round =>
    obtain ⟨k, hk, rfl, hkk, hx⟩ := hrel
    have HK := Lib.hid hkk; clear hkk
    by_cases hlt : k < n
    · obtain ⟨s, hss⟩ := h.idx hlt
      obtain ⟨b, off, A', n', c', rfl, ⟨_, hne⟩, hc, hsl⟩ := (h.ext hx).sl hss
      have HC := Lib.hid (setsWrong_any A' n' c' s wr hsl)
      have HD := Lib.hid (drop_cons hss); clear hss hsl
      by_cases hz : wrongSet s = 0
      · have HZ := Lib.hid hz; clear hz
        go_wp2_with (go_at_call 54; refine HC.out.mono ?_; rintro e w1 ⟨rfl, hx1⟩; rw [HZ.out])
        go_roundw
        case rel => exact ⟨k + 1, by omega, by go_num, by rw [HK.out, HD.out, wrongSets_ok HZ.out], hx.trans hx1⟩
        case measure => simp [intOf]; omega
      · have HZ := Lib.hid hz
        have hb : (wrongSet s != 0) = true := by simpa using hz
        clear hz
        generalize hq : wrongSet s = q at *
        have HQ := Lib.hid hq; clear hq
        go_wp2_with (go_at_call 54; refine HC.out.mono ?_; rintro e w1 ⟨rfl, hx1⟩)
        go_ret
        rw [HK.out, HD.out, wrongSets_bad (by rw [HQ.out]; exact HZ.out), HQ.out]
        exact ⟨rfl, hx.trans hx1⟩
    · go_wp2
      go_ret
      rw [HK.out, drop_end hlen.out hlt]
      exact ⟨rfl, hx⟩

theorem sets_one {w : World} {A : Option Addr} {n c : Nat} {x : List Sp} (t : TypeId) (h : Spans w A n c x) : Sets (w.alloc (.cells #[.slice A n c] t)) (some ⟨w.heap.size, 0, none⟩) 1 1 [x] :=
  SlR.fresh rfl (by unfold maxLen; omega) fun k u hu => by
    match k, hu with
    | 0, hu => cases hu; exact ⟨[.slice A n c], rfl, ⟨A, n, c, rfl, h.ext ((Ext.refl w).alloc _)⟩, fun j v hv => by match j, hv with | 0, hv => simpa using hv⟩
theorem sets_two {w : World} {A B : Option Addr} {n c m d : Nat} {x y : List Sp} (t : TypeId) (h : Spans w A n c x) (k : Spans w B m d y) : Sets (w.alloc (.cells #[.slice A n c, .slice B m d] t)) (some ⟨w.heap.size, 0, none⟩) 2 2 [x, y] :=
  SlR.fresh rfl (by unfold maxLen; omega) fun i u hu => by
    match i, hu with
    | 0, hu => cases hu; exact ⟨[.slice A n c], rfl, ⟨A, n, c, rfl, h.ext ((Ext.refl w).alloc _)⟩, fun j v hv => by match j, hv with | 0, hv => simpa using hv⟩
    | 1, hu => cases hu; exact ⟨[.slice B m d], rfl, ⟨B, m, d, rfl, k.ext ((Ext.refl w).alloc _)⟩, fun j v hv => by match j, hv with | 0, hv => simpa using hv⟩
theorem wrongSets_one (s : List Sp) : wrongSets [s] = wrongSet s := by
  by_cases h : wrongSet s = 0
  · rw [wrongSets_ok h, h]; rfl
  · exact wrongSets_bad h

/-- how many runes -/
def countL (l : List Sp) : Int := (l.map fun x => x.hi - x.lo + 1).sum
theorem countL_snoc (l : List Sp) (x : Sp) : countL (l ++ [x]) = countL l + (x.hi - x.lo + 1) := by simp [countL]
theorem countL_cons (l : List Sp) (x : Sp) : countL (x :: l) = (x.hi - x.lo + 1) + countL l := by simp [countL]
theorem countL_bd : ∀ (l : List Sp), (∀ x ∈ l, okSp x) → 0 ≤ countL l ∧ countL l ≤ 1114112 * l.length
  | [], _ => by simp [countL]
  | x :: l, h => by
    have h1 := countL_bd l fun y hy => h y (by simp [hy])
    have h2 := h x (by simp)
    unfold okSp at h2
    rw [countL_cons, List.length_cons]
    omega
def countV (l : List Sp) : Int := if wrongSet l ≠ 0 then 0 else countL l

set_option maxRecDepth 100000 in
set_option maxHeartbeats 400000 in
theorem Count_any (A : Option Addr) (n c : Nat) (l : List Sp) (w : World) (h : Spans w A n c l) :
    Calls Try.prog 58 #[.slice A n c] w fun e w' => e = .returned (.tuple #[.int .i64 (countV l), .int .i64 (wrongSet l)]) ∧ Ext w w' := by
  have e1 := (Ext.refl w).alloc (.cells #[.slice A n c] 67)
  have HC := Lib.hid (setsRight_any _ 1 1 [l] _ (sets_one 67 h) (by omega))
  rw [wrongSets_one] at HC
  by_cases hz : wrongSet l = 0
  · have hV : Hid (countV l = countL l) := Lib.hid (by unfold countV; rw [if_neg (by simp [hz])])
    have G := good_of hz
    have hn : n ≤ 200 := by rw [← h.len]; exact G.len
    have hcap := h.cap
    have hlen := Lib.hid h.len
    rw [hz] at HC
    have HZ := Lib.hid hz; clear hz
    go_enter Try.func58, Try.ntmps58
    go_wp2_with (go_at_call 125; refine HC.out.mono ?_; rintro e w1 ⟨rfl, x1⟩)
    have ex1 := e1.trans x1
    go_loopw [5, 16] (fun s i wr => ∃ k : Nat, k ≤ n ∧ i = .int .i64 k ∧ s = .int .i64 (countL (l.take k)) ∧ Ext w wr) (fun _ i _ => n - (intOf i).toNat)
    case atStart => exact ⟨0, by omega, rfl, rfl, ex1⟩
    case round =>
      obtain ⟨k, hk, rfl, rfl, hx⟩ := hrel
      by_cases hlt : k < n
      · obtain ⟨x, hxx⟩ := h.idx hlt
        obtain ⟨b, off, rfl, ⟨_, hne⟩, k1, k2, _, _⟩ := (h.ext hx).span hxx
        have hr := G.rng x (List.mem_of_getElem? hxx)
        have hbd := countL_bd (l.take k) (fun y hy => G.rng y (List.mem_of_mem_take hy))
        rw [List.length_take, hlen.out] at hbd
        have HS : Hid (countL (l.take (k + 1)) = countL (l.take k) + (x.hi - x.lo + 1)) := Lib.hid (by rw [take_snoc hxx, countL_snoc])
        clear hxx
        obtain ⟨lo, hi⟩ := x
        simp only [] at hr k1 k2 HS
        generalize countL (l.take k) = z at *
        have hz0 : 0 ≤ z := hbd.1
        have hz1 : z ≤ 223000000 := by omega
        clear hbd
        obtain ⟨hr1, hr2, hr3⟩ := hr
        go_wp2
        go_roundw
        case rel => exact ⟨k + 1, by omega, by go_num, by rw [HS.out], hx.alloc _⟩
        case measure => simp [intOf]; omega
      · go_wp2
        go_ret2
        rw [take_all hlen.out (by omega), hV.out, HZ.out]
        exact ⟨rfl, hx⟩
  · have hV : Hid (countV l = 0) := Lib.hid (by unfold countV; rw [if_pos hz])
    have hb : (wrongSet l != 0) = true := by simpa using hz
    clear hz
    generalize wrongSet l = q at *
    go_enter Try.func58, Try.ntmps58
    go_wp2_with (go_at_call 125; refine HC.out.mono ?_; rintro e w1 ⟨rfl, x1⟩)
    go_ret2
    rw [hV.out]
    exact ⟨rfl, e1.trans x1⟩

/-- the k-th rune -/
def nthFrom : List Sp → Int → Int × Int
  | [], _ => (0, 6)
  | x :: l, k => if k < x.hi - x.lo + 1 then (x.lo + k, 0) else nthFrom l (k - (x.hi - x.lo + 1))
def nthL (l : List Sp) (k : Int) : Int × Int := if wrongSet l ≠ 0 then (0, wrongSet l) else if k < 0 then (0, 3) else nthFrom l k
theorem nthFrom_yes {x : Sp} {l : List Sp} {k : Int} (h : k < x.hi - x.lo + 1) : nthFrom (x :: l) k = (x.lo + k, 0) := by unfold nthFrom; rw [if_pos h]
theorem nthFrom_no {x : Sp} {l : List Sp} {k : Int} (h : ¬ k < x.hi - x.lo + 1) : nthFrom (x :: l) k = nthFrom l (k - (x.hi - x.lo + 1)) := by rw [nthFrom, if_neg h]

theorem pair_val {a b : Int} {k1 k2 : IntKind} {p : Int × Int} (h : p = (a, b)) : Ending.returned (.tuple #[.int k1 a, .int k2 b]) = .returned (.tuple #[.int k1 p.1, .int k2 p.2]) := by rw [h]

set_option maxRecDepth 100000 in
set_option maxHeartbeats 800000 in
theorem Nth_any (A : Option Addr) (n c : Nat) (l : List Sp) (k : Int) (w : World) (h : Spans w A n c l) (hk : i64 k) :
    Calls Try.prog 60 #[.slice A n c, .int .i64 k] w fun e w' => e = .returned (.tuple #[.int .i32 (nthL l k).1, .int .i64 (nthL l k).2]) ∧ Ext w w' := by
  have e1 := (Ext.refl w).alloc (.cells #[.slice A n c] 67)
  have HC := Lib.hid (setsRight_any _ 1 1 [l] _ (sets_one 67 h) (by omega))
  rw [wrongSets_one] at HC
  unfold i64 at hk
  by_cases hz : wrongSet l = 0
  · have G := good_of hz
    have hn : n ≤ 200 := by rw [← h.len]; exact G.len
    have hcap := h.cap
    have hlen := Lib.hid h.len
    rw [hz] at HC
    by_cases hneg : k < 0
    · have HV : Hid (nthL l k = (0, 3)) := Lib.hid (by unfold nthL; rw [if_neg (by simp [hz]), if_pos hneg])
      have hb : decide (k < 0) = true := by simpa using hneg
      clear hz hneg
      go_enter Try.func60, Try.ntmps60
      go_wp2_with (go_at_call 125; refine HC.out.mono ?_; rintro e w1 ⟨rfl, x1⟩)
      go_ret2
      exact ⟨pair_val HV.out, e1.trans x1⟩
    · have HV : Hid (nthL l k = nthFrom l k) := Lib.hid (by unfold nthL; rw [if_neg (by simp [hz]), if_neg hneg])
      have hb : decide (k < 0) = false := by simpa using hneg
      have hk0 : 0 ≤ k := by omega
      clear hz hneg
      go_enter Try.func60, Try.ntmps60
      go_wp2_with (go_at_call 125; refine HC.out.mono ?_; rintro e w1 ⟨rfl, x1⟩)
      have ex1 := e1.trans x1
      clear hb
      go_loopw [1, 20] (fun s i wr => ∃ (j : Nat) (z : Int), j ≤ n ∧ i = .int .i64 j ∧ s = .int .i64 z ∧ 0 ≤ z ∧ z ≤ 9223372036854775807 ∧ nthL l k = nthFrom (l.drop j) z ∧ Ext w wr) (fun _ i _ => n - (intOf i).toNat)
      case atStart => exact ⟨0, k, by omega, rfl, rfl, hk0, hk.2, HV.out, ex1⟩
      case round =>
        obtain ⟨j, z, hj, rfl, rfl, hz0, hz1, hkk, hx⟩ := hrel
        have HK := Lib.hid hkk; clear hkk
        by_cases hlt : j < n
        · obtain ⟨x, hxx⟩ := h.idx hlt
          obtain ⟨b, off, rfl, ⟨_, hne⟩, k1, k2, _, _⟩ := (h.ext hx).span hxx
          obtain ⟨hr1, hr2, hr3⟩ := G.rng x (List.mem_of_getElem? hxx)
          have HD := Lib.hid (drop_cons hxx); clear hxx
          obtain ⟨lo, hi⟩ := x
          simp only [] at hr1 hr2 hr3 k1 k2 HD
          by_cases ht : z < hi - lo + 1
          · have HV2 : Hid (nthL l k = (lo + z, 0)) := Lib.hid (by rw [HK.out, HD.out, nthFrom_yes ht])
            have hb : decide (z < hi - lo + 1) = true := by simpa using ht
            go_wp2
            go_ret2
            exact ⟨pair_val HV2.out, hx.alloc _⟩
          · have HV2 : Hid (nthL l k = nthFrom (l.drop (j + 1)) (z - (hi - lo + 1))) := Lib.hid (by rw [HK.out, HD.out, nthFrom_no ht])
            have hb : decide (z < hi - lo + 1) = false := by simpa using ht
            go_wp2
            go_roundw
            case rel => exact ⟨j + 1, z - (hi - lo + 1), by omega, by go_num, rfl, by omega, by omega, HV2.out, hx.alloc _⟩
            case measure => simp [intOf]; omega
        · have HV2 : Hid (nthL l k = (0, 6)) := Lib.hid (by rw [HK.out, drop_end hlen.out hlt]; rfl)
          go_wp2
          go_ret2
          exact ⟨pair_val HV2.out, hx⟩
  · have HV : Hid (nthL l k = (0, wrongSet l)) := Lib.hid (by unfold nthL; rw [if_pos hz])
    have hb : (wrongSet l != 0) = true := by simpa using hz
    clear hz
    generalize wrongSet l = q at *
    go_enter Try.func60, Try.ntmps60
    go_wp2_with (go_at_call 125; refine HC.out.mono ?_; rintro e w1 ⟨rfl, x1⟩)
    go_ret2
    exact ⟨pair_val HV.out, e1.trans x1⟩

end Go.Proofs.Ytfdkbhbnldcbmaa
