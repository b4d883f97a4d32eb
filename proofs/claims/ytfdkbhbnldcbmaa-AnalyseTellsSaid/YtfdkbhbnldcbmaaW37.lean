/- Walks: what the laws of chapter 2 share: Same, small, alive, the closures of SetsAlgebra. -/
import Derived.Test.YtfdkbhbnldcbmaaW36
namespace Go.Proofs.Ytfdkbhbnldcbmaa
open Go.RowKit
set_option linter.unusedVariables false
set_option linter.unusedSimpArgs false

/-- two like sets are the same -/
theorem Same2_any (A B : Option Addr) (n c d : Nat) (l : List Sp) (w : World) (hA : Spans w A n c l) (hB : Spans w B n d l) :
    Calls Try.prog 55 #[.slice A n c, .slice B n d] w fun e w' => e = .returned (.bool true) ∧ Ext w w' := by
  have hcap := hA.cap
  have hmax := hA.max; unfold maxLen at hmax
  have hn : ((n : Int) != (n : Int)) = false := by simp
  go_enter Try.func55, Try.ntmps55
  go_wp2
  go_loopw [13] (fun i wr => ∃ k : Nat, k ≤ n ∧ i = .int .i64 k ∧ Ext w wr) (fun i _ => n - (intOf i).toNat)
  case atStart => exact ⟨0, by omega, rfl, Ext.refl _⟩
  case round =>
    obtain ⟨k, hk, rfl, hx⟩ := hrel
    by_cases hlt : k < n
    · obtain ⟨x, hxx⟩ := hA.idx hlt
      obtain ⟨b, off, rfl, ⟨_, hne⟩, c1, c2, xb1, xb2⟩ := (hA.ext hx).span hxx
      obtain ⟨b', off', rfl, ⟨_, hne'⟩, d1, d2, _, _⟩ := (hB.ext hx).span hxx
      clear hxx
      obtain ⟨lo, hi⟩ := x
      simp only [] at c1 c2 d1 d2
      go_wp2
      go_quiet (fail)
      go_wp2
      go_roundw
      case rel => exact ⟨k + 1, by omega, by go_num, hx.drewN _⟩
      case measure => simp [intOf]; omega
    · go_wp2
      go_ret
      exact ⟨rfl, hx⟩

/-- a small set -/
structure Small (l : List Sp) : Prop where
  good : Good l
  len : l.length ≤ 50
def smallB : List (List Sp) → Bool
  | [] => true
  | s :: r => if wrongSet s ≠ 0 then false else if 50 < s.length then false else smallB r
theorem smallB_cons {s : List Sp} {r : List (List Sp)} (h : smallB (s :: r) = true) : Small s ∧ smallB r = true := by
  unfold smallB at h
  by_cases h1 : wrongSet s ≠ 0
  · rw [if_pos h1] at h; cases h
  · rw [if_neg h1] at h
    by_cases h2 : 50 < s.length
    · rw [if_pos h2] at h; cases h
    · rw [if_neg h2] at h; exact ⟨⟨good_of (by simpa using h1), by omega⟩, h⟩
theorem small_bad {s : List Sp} {r : List (List Sp)} (h : wrongSet s ≠ 0) : smallB (s :: r) = false := by unfold smallB; rw [if_pos h]
theorem small_big {s : List Sp} {r : List (List Sp)} (h : wrongSet s = 0) (k : 50 < s.length) : smallB (s :: r) = false := by unfold smallB; rw [if_neg (by simpa using h), if_pos k]
theorem small_ok {s : List Sp} {r : List (List Sp)} (h : wrongSet s = 0) (k : ¬ 50 < s.length) : smallB (s :: r) = smallB r := by rw [smallB, if_neg (by simpa using h), if_neg k]

theorem small_any (A : Option Addr) (n c : Nat) (l : List (List Sp)) (w : World) (h : Sets w A n c l) (hn : n ≤ 40) :
    Calls Try.prog 70 #[.slice A n c] w fun e w' => e = .returned (.bool (smallB l)) ∧ Ext w w' := by
  have hlen := Lib.hid h.len
  have hcap := h.cap
  go_enter Try.func70, Try.ntmps70
  go_wp2
  go_loopw [7] (fun i wr => ∃ k : Nat, k ≤ n ∧ i = .int .i64 k ∧ smallB l = smallB (l.drop k) ∧ Ext w wr) (fun i _ => n - (intOf i).toNat)
  case atStart => exact ⟨0, by omega, rfl, rfl, Ext.refl _⟩
  case round =>
    obtain ⟨k, hk, rfl, hkk, hx⟩ := hrel
    have HK := Lib.hid hkk; clear hkk
    by_cases hlt : k < n
    · obtain ⟨s, hss⟩ := h.idx hlt
      obtain ⟨b, off, A', n', c', rfl, ⟨_, hne⟩, hc, hsl⟩ := (h.ext hx).sl hss
      have HC := Lib.hid (setsWrong_any A' n' c' s wr hsl)
      have HD := Lib.hid (drop_cons hss)
      have HL := Lib.hid hsl.len
      have hsc := hsl.cap
      have hsm := hsl.max; unfold maxLen at hsm
      clear hss hsl
      by_cases hz : wrongSet s = 0
      · have HZ := Lib.hid hz; clear hz
        by_cases hb : 50 < n'
        · have hb1 : decide (50 < (n' : Int)) = true := by simp; omega
          have HB := Lib.hid hb
          clear hb
          go_wp2_with (go_at_call 54; refine HC.out.mono ?_; rintro e w1 ⟨rfl, hx1⟩; rw [HZ.out])
          go_ret
          rw [HK.out, HD.out, small_big HZ.out (by rw [HL.out]; exact HB.out)]
          exact ⟨rfl, hx.trans hx1⟩
        · have hb1 : decide (50 < (n' : Int)) = false := by simp; omega
          have HB := Lib.hid hb
          clear hb
          go_wp2_with (go_at_call 54; refine HC.out.mono ?_; rintro e w1 ⟨rfl, hx1⟩; rw [HZ.out])
          go_roundw
          case rel => exact ⟨k + 1, by omega, by go_num, by rw [HK.out, HD.out, small_ok HZ.out (by rw [HL.out]; exact HB.out)], hx.trans hx1⟩
          case measure => simp [intOf]; omega
      · have HZ := Lib.hid hz
        have hb : (wrongSet s != 0) = true := by simpa using hz
        clear hz
        generalize hq : wrongSet s = q at *
        have HQ := Lib.hid hq; clear hq
        go_wp2_with (go_at_call 54; refine HC.out.mono ?_; rintro e w1 ⟨rfl, hx1⟩)
        go_ret
        rw [HK.out, HD.out, small_bad (by rw [HQ.out]; exact HZ.out)]
        exact ⟨rfl, hx.trans hx1⟩
    · go_wp2
      go_ret
      rw [HK.out, drop_end hlen.out hlt]
      exact ⟨rfl, hx⟩

/-- a set of some length lies there -/
def SetL (s : List Sp) (w' : World) (e : Ending) : Prop := ∃ A c, e = .returned (.slice A s.length c) ∧ Spans w' A s.length c s
theorem setO_ok {s : List Sp} {w' : World} {e : Ending} (hl : s.length ≤ 200) (h : SetO (setOut 0 s) w' e) : ∃ A c, e = .returned (.tuple #[.slice A s.length c, .int .i64 0]) ∧ Spans w' A s.length c s := by
  rw [setOut_ok (by omega)] at h
  exact h
theorem wrong_one {a : List Sp} (h : Good a) : wrongSets [a] = 0 := by rw [wrongSets_one, wrong_of_good h]
theorem wrong_two {a b : List Sp} (h : Good a) (k : Good b) : wrongSets [a, b] = 0 := by rw [wrongSets_ok (wrong_of_good h), wrongSets_one, wrong_of_good k]

theorem notC_any (A : Option Addr) (n c : Nat) (a : List Sp) (w : World) (hA : Spans w A n c a) (G : Good a) (hl : (notL a).length ≤ 200) :
    Calls Try.prog 71 #[.slice A n c] w fun e w' => SetL (notL a) w' e ∧ Ext w w' := by
  have HC := Lib.hid (NotS_any A n c a w hA)
  rw [wrong_one G] at HC
  go_enter Try.func71, Try.ntmps71
  go_wp2_with (go_at_call 65; refine HC.out.mono ?_; rintro e w1 ⟨h1, x1⟩; obtain ⟨A1, c1, rfl, s1⟩ := setO_ok hl h1)
  go_ret
  exact ⟨⟨A1, c1, rfl, s1⟩, x1⟩
theorem orC_any (A : Option Addr) (n c : Nat) (a : List Sp) (B : Option Addr) (m d : Nat) (b : List Sp) (w : World) (hA : Spans w A n c a) (hB : Spans w B m d b) (G : Good a) (G2 : Good b) (hl : (ofS (a ++ b)).length ≤ 200) :
    Calls Try.prog 72 #[.slice A n c, .slice B m d] w fun e w' => SetL (ofS (a ++ b)) w' e ∧ Ext w w' := by
  have HC := Lib.hid (UnionS_any A n c a B m d b w hA hB)
  rw [wrong_two G G2] at HC
  generalize ofS (a ++ b) = u at *
  go_enter Try.func72, Try.ntmps72
  go_wp2_with (go_at_call 67; refine HC.out.mono ?_; rintro e w1 ⟨h1, x1⟩; obtain ⟨A1, c1, rfl, s1⟩ := setO_ok hl h1)
  go_ret
  exact ⟨⟨A1, c1, rfl, s1⟩, x1⟩
theorem andC_any (A : Option Addr) (n c : Nat) (a : List Sp) (B : Option Addr) (m d : Nat) (b : List Sp) (w : World) (hA : Spans w A n c a) (hB : Spans w B m d b) (G : Good a) (G2 : Good b) (hl : (meetL a b).length ≤ 200) :
    Calls Try.prog 73 #[.slice A n c, .slice B m d] w fun e w' => SetL (meetL a b) w' e ∧ Ext w w' := by
  have HC := Lib.hid (MeetS_any A n c a B m d b w hA hB)
  rw [wrong_two G G2] at HC
  generalize meetL a b = u at *
  go_enter Try.func73, Try.ntmps73
  go_wp2_with (go_at_call 68; refine HC.out.mono ?_; rintro e w1 ⟨h1, x1⟩; obtain ⟨A1, c1, rfl, s1⟩ := setO_ok hl h1)
  go_ret
  exact ⟨⟨A1, c1, rfl, s1⟩, x1⟩

theorem of_alive : ofV [⟨99, 101⟩, ⟨97, 98⟩] = [⟨97, 101⟩] ∧ ofE [⟨99, 101⟩, ⟨97, 98⟩] = 0 := by
  have hs : ofS [⟨99, 101⟩, ⟨97, 98⟩] = [⟨97, 101⟩] := by
    refine (ofS_set (fun x hx => ?_)).uniq ⟨⟨fun x hx => ?_, List.pairwise_singleton _ _⟩, fun r => ?_⟩
    · simp only [List.mem_cons, List.not_mem_nil, or_false] at hx
      rcases hx with rfl | rfl <;> unfold okSp <;> simp
    · simp only [List.mem_cons, List.not_mem_nil, or_false] at hx
      subst hx; simp
    · rw [Bool.eq_iff_iff]
      simp only [has_cons, has_nil, Bool.or_false, Bool.or_eq_true, inSp_iff]
      omega
  have := ofE_ok (l := [⟨99, 101⟩, ⟨97, 98⟩]) (by decide) (by rw [hs]; simp)
  exact ⟨by rw [this.2, hs], this.1⟩
theorem spans_cd (w : World) (t : TypeId) (lo hi lo' hi' : Int) (h1 : i32 lo) (h2 : i32 hi) (h3 : i32 lo') (h4 : i32 hi') :
    Spans (w.alloc (.cells #[.int .i32 lo, .int .i32 hi, .int .i32 lo', .int .i32 hi'] t)) (some ⟨w.heap.size, 0, none⟩) 2 2 [⟨lo, hi⟩, ⟨lo', hi'⟩] :=
  SlR.fresh rfl (by unfold maxLen; omega) fun k x hx => by
    match k, hx with
    | 0, hx => cases hx; exact ⟨[.int .i32 lo, .int .i32 hi], rfl, ⟨rfl, h1, h2⟩, fun j u hu => by match j, hu with | 0, hu => simpa using hu | 1, hu => simpa using hu⟩
    | 1, hx => cases hx; exact ⟨[.int .i32 lo', .int .i32 hi'], rfl, ⟨rfl, h3, h4⟩, fun j u hu => by match j, hu with | 0, hu => simpa using hu | 1, hu => simpa using hu⟩

set_option maxRecDepth 100000 in
set_option maxHeartbeats 2000000 in
theorem alive2_any (w : World) : Calls Try.prog 52 #[] w fun e w' => e = .returned (.bool true) ∧ Ext w w' := by
  have e1 := (Ext.refl w).alloc (.cells #[.int .i32 99, .int .i32 101, .int .i32 97, .int .i32 98] 80)
  have HO := Lib.hid (Of_any _ 2 2 _ _ (spans_cd w 80 99 101 97 98 (by unfold i32; omega) (by unfold i32; omega) (by unfold i32; omega) (by unfold i32; omega)) (by omega))
  rw [of_alive.1, of_alive.2] at HO
  have HH := Lib.hid (fun W A c (hs : Spans W A 1 c [⟨97, 101⟩]) => setsHas_any A 1 c [⟨97, 101⟩] 99 W hs (by decide))
  have hv : has [⟨97, 101⟩] 99 = true := by decide
  rw [hv] at HH
  go_enter Try.func52, Try.ntmps52
  go_upto_region 2 with (go_at_call 53; refine HO.out.mono ?_; rintro e w1 ⟨⟨A1, c1, rfl, s1⟩, x1⟩)
  obtain ⟨b, off, rfl, ⟨_, hne⟩, k1, k2, _, _⟩ := SlR.span (k := 0) s1 rfl
  simp only [List.length_cons, List.length_nil, Nat.zero_add] at s1
  simp only [Nat.zero_mul, Nat.add_zero] at k1 k2
  have hcap := s1.cap
  have HH2 := Lib.hid (HH.out _ _ _ s1)
  go_wp2_with (go_at_call 51; refine HH2.out.mono ?_; rintro e w2 ⟨rfl, x2⟩)
  go_ret
  exact ⟨rfl, (e1.trans x1).trans x2⟩

end Go.Proofs.Ytfdkbhbnldcbmaa
