/- Walks: the document's Count and Nth. -/
import Derived.Test.YtfdkbhbnldcbmaaPl4
import Derived.Test.YtfdkbhbnldcbmaaW2b
namespace Go.Proofs.Ytfdkbhbnldcbmaa
open Go.RowKit
set_option linter.unusedVariables false
set_option linter.unusedSimpArgs false

set_option maxRecDepth 100000 in
set_option maxHeartbeats 800000 in
theorem refCount_any (A : Option Addr) (n c : Nat) (l : List Sp) (w : World) (h : Spans w A n c l) :
    Calls Try.prog 59 #[.slice A n c] w fun e w' => e = .returned (.tuple #[.int .i64 (countV l), .int .i64 (wrongSet l)]) ∧ Ext w w' := by
  have HC := Lib.hid (refSetWrong_any A n c l w h)
  by_cases hz : wrongSet l = 0
  · have hV : Hid (countV l = countL l) := Lib.hid (by unfold countV; rw [if_neg (by simp [hz])])
    have G := good_of hz
    have hn : n ≤ 200 := by rw [← h.len]; exact G.len
    have hcap := h.cap
    have hlen := Lib.hid h.len
    rw [hz] at HC
    have HZ := Lib.hid hz; clear hz
    go_enter Try.func59, Try.ntmps59
    go_wp2_with (go_at_call 56; refine HC.out.mono ?_; rintro e w1 ⟨rfl, x1⟩)
    go_loopw [5, 15] (fun s i wr => ∃ k : Nat, k ≤ n ∧ i = .int .i64 k ∧ s = .int .i64 (countL (l.take k)) ∧ Ext w wr) (fun _ i _ => n - (intOf i).toNat)
    case atStart => exact ⟨0, by omega, rfl, rfl, x1⟩
    case round =>
      obtain ⟨k, hk, rfl, rfl, hx⟩ := hrel
      by_cases hlt : k < n
      · obtain ⟨x, hxx⟩ := h.idx hlt
        obtain ⟨b, off, rfl, ⟨_, hne⟩, k1, k2, _, _⟩ := (h.ext hx).span hxx
        have hr := G.rng x (List.mem_of_getElem? hxx)
        have hbd := countL_bd (l.take k) (fun y hy => G.rng y (List.mem_of_mem_take hy))
        rw [List.length_take, hlen.out] at hbd
        have HS : Hid (countL (l.take (k + 1)) = countL (l.take k) + x.hi - x.lo + 1) := Lib.hid (by rw [take_snoc hxx, countL_snoc]; omega)
        clear hxx
        obtain ⟨lo, hi⟩ := x
        simp only [] at hr k1 k2 HS
        generalize countL (l.take k) = z at *
        have hz0 : 0 ≤ z := hbd.1
        have hz1 : z ≤ 223000000 := by omega
        clear hbd
        obtain ⟨hr1, hr2, hr3⟩ := hr
        go_wp2
        go_roundw
        case rel => exact ⟨k + 1, by omega, by go_num, by rw [HS.out], hx.alloc _⟩
        case measure => simp [intOf]; omega
      · go_wp2
        go_ret2
        rw [take_all hlen.out (by omega), hV.out, HZ.out]
        exact ⟨rfl, hx⟩
  · have hV : Hid (countV l = 0) := Lib.hid (by unfold countV; rw [if_pos hz])
    have hb : (wrongSet l != 0) = true := by simpa using hz
    clear hz
    generalize wrongSet l = q at *
    go_enter Try.func59, Try.ntmps59
    go_wp2_with (go_at_call 56; refine HC.out.mono ?_; rintro e w1 ⟨rfl, x1⟩)
    go_ret2
    rw [hV.out]
    exact ⟨rfl, x1⟩

theorem count_part {l : List Sp} (G : Good l) (k : Nat) : countV (l.take k) = countL (l.take k) ∧ wrongSet (l.take k) = 0 := by
  have g := good_take G k
  exact ⟨countV_good g, wrong_of_good g⟩

set_option maxRecDepth 100000 in
set_option maxHeartbeats 1600000 in
theorem refNth_any (A : Option Addr) (n c : Nat) (l : List Sp) (k : Int) (w : World) (h : Spans w A n c l) (hk : i64 k) :
    Calls Try.prog 61 #[.slice A n c, .int .i64 k] w fun e w' => e = .returned (.tuple #[.int .i32 (nthL l k).1, .int .i64 (nthL l k).2]) ∧ Ext w w' := by
  have HC := Lib.hid (refSetWrong_any A n c l w h)
  unfold i64 at hk
  by_cases hz : wrongSet l = 0
  · have G := good_of hz
    have hn : n ≤ 200 := by rw [← h.len]; exact G.len
    have hcap := h.cap
    have hlen := Lib.hid h.len
    rw [hz] at HC
    by_cases hneg : k < 0
    · have HV : Hid (nthL l k = (0, 3)) := Lib.hid (by unfold nthL; rw [if_neg (by simp [hz]), if_pos hneg])
      have hb : decide (k < 0) = true := by simpa using hneg
      clear hz hneg
      go_enter Try.func61, Try.ntmps61
      go_wp2_with (go_at_call 56; refine HC.out.mono ?_; rintro e w1 ⟨rfl, x1⟩)
      go_ret2
      exact ⟨pair_val HV.out, x1⟩
    · have HV : Hid (nthL l k = nthFrom l k) := Lib.hid (by unfold nthL; rw [if_neg (by simp [hz]), if_neg hneg])
      have hb : decide (k < 0) = false := by simpa using hneg
      have hk0 : 0 ≤ k := by omega
      have HCnt : Hid (∀ W, Ext w W → ∀ j : Nat, j ≤ n → Calls Try.prog 59 #[.slice A j c] W fun e w' => e = .returned (.tuple #[.int .i64 (countL (l.take j)), .int .i64 0]) ∧ Ext W w') := Lib.hid (fun W e j hj => by
        have hs : Spans W A j c (l.take j) := SlR.take (h.ext e) hj
        have := refCount_any A j c (l.take j) W hs
        rw [(count_part G j).1, (count_part G j).2] at this
        exact this)
      clear hz hneg
      go_enter Try.func61, Try.ntmps61
      go_wp2_with (go_at_call 56; refine HC.out.mono ?_; rintro e w1 ⟨rfl, x1⟩)
      clear hb
      go_loopw [21] (fun i wr => ∃ j : Nat, j ≤ n ∧ i = .int .i64 j ∧ Hid (nthL l k = nthFrom (l.drop j) (k - countL (l.take j))) ∧ countL (l.take j) ≤ k ∧ Ext w wr) (fun i _ => n - (intOf i).toNat)
      case atStart => exact ⟨0, by omega, rfl, Lib.hid (by rw [HV.out]; simp [countL]), by simpa [countL] using hk0, x1⟩
      case round =>
        obtain ⟨j, hj, rfl, HK, hle, hx⟩ := hrel
        by_cases hlt : j < n
        · obtain ⟨x, hxx⟩ := h.idx hlt
          obtain ⟨b, off, rfl, ⟨_, hne⟩, _⟩ := (h.ext hx).span hxx
          have hrd := fun W (e : Ext wr W) => (h.ext (hx.trans e)).span hxx
          have HR := Lib.hid hrd; clear hrd
          obtain ⟨hr1, hr2, hr3⟩ := G.rng x (List.mem_of_getElem? hxx)
          have HD := Lib.hid (drop_cons hxx)
          have hbd := countL_bd (l.take j) (fun y hy => G.rng y (List.mem_of_mem_take hy))
          rw [List.length_take, hlen.out] at hbd
          have HS : Hid (countL (l.take (j + 1)) = countL (l.take j) + (x.hi - x.lo + 1)) := Lib.hid (by rw [take_snoc hxx, countL_snoc])
          clear hxx
          have hc1 := fun W => run_cut_h T_span (some ⟨b, off, none⟩) n c (j : Int) j rfl (by omega) W
          have hc2 := fun W => run_cut_h T_span (some ⟨b, off, none⟩) n c ((j : Int) + 1) (j + 1) (by omega) (by omega) W
          have hwj : IntKind.i64.wrap ((j : Int) + 1) = (j : Int) + 1 := IntWalk.i64_in _ (by omega)
          have C1 := Lib.hid (fun W e => HCnt.out W e j hj)
          have C2 := Lib.hid (fun W e => HCnt.out W e (j + 1) (by omega))
          rw [HS.out] at C2
          obtain ⟨lo, hi⟩ := x
          simp only [] at hr1 hr2 hr3 HD HS C2 HR
          generalize countL (l.take j) = z at *
          have hz0 : 0 ≤ z := hbd.1
          have hz1 : z ≤ 223000000 := by omega
          clear hbd
          by_cases ht : k < z + (hi - lo + 1)
          · have HV2 : Hid (nthL l k = (lo + (k - z), 0)) := Lib.hid (by rw [HK.out, HD.out, nthFrom_yes (by simp only []; omega)])
            have hb : decide (k < z + (hi - lo + 1)) = true := by simpa using ht
            have hkz : 0 ≤ k - z := by omega
            have hkz2 : k - z ≤ 1114111 := by omega
            go_wp2_with (first
              | (go_at_call 59; (with_reducible refine (C1.out _ hx).mono ?_); rintro e w2 ⟨rfl, x2⟩)
              | (go_at_call 59; (with_reducible refine (C2.out _ (hx.trans x2)).mono ?_); rintro e w3 ⟨rfl, x3⟩; obtain ⟨b', off', e', _, c1', _, _⟩ := HR.out w3 (x2.trans x3); cases e'))
            go_ret2
            exact ⟨pair_val HV2.out, (hx.trans x2).trans x3⟩
          · have HV2 : Hid (nthL l k = nthFrom (l.drop (j + 1)) (k - countL (l.take (j + 1)))) := Lib.hid (by rw [HK.out, HD.out, nthFrom_no (by simp only []; omega), HS.out]; simp only []; congr 1; omega)
            have hb : decide (k < z + (hi - lo + 1)) = false := by simpa using ht
            go_wp2_with (first
              | (go_at_call 59; (with_reducible refine (C1.out _ hx).mono ?_); rintro e w2 ⟨rfl, x2⟩)
              | (go_at_call 59; (with_reducible refine (C2.out _ (hx.trans x2)).mono ?_); rintro e w3 ⟨rfl, x3⟩))
            go_roundw
            case rel => exact ⟨j + 1, by omega, by go_num, HV2, by rw [HS.out]; omega, (hx.trans x2).trans x3⟩
            case measure => simp [intOf]; omega
        · have HV2 : Hid (nthL l k = (0, 6)) := Lib.hid (by rw [HK.out, drop_end hlen.out hlt]; rfl)
          clear HCnt
          go_wp2
          go_ret2
          exact ⟨pair_val HV2.out, hx⟩
  · have HV : Hid (nthL l k = (0, wrongSet l)) := Lib.hid (by unfold nthL; rw [if_pos hz])
    have hb : (wrongSet l != 0) = true := by simpa using hz
    clear hz
    generalize wrongSet l = q at *
    go_enter Try.func61, Try.ntmps61
    go_wp2_with (go_at_call 56; refine HC.out.mono ?_; rintro e w1 ⟨rfl, x1⟩)
    go_ret2
    exact ⟨pair_val HV.out, x1⟩

end Go.Proofs.Ytfdkbhbnldcbmaa
