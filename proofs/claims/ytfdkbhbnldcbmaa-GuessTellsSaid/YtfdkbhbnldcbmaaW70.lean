/- Walks: what is in two sets; the document's Count and Sure; whether two texts are equal. -/
import Derived.Test.YtfdkbhbnldcbmaaPl14
import Derived.Test.YtfdkbhbnldcbmaaW2b
import Derived.Test.YtfdkbhbnldcbmaaW12
import Derived.Test.YtfdkbhbnldcbmaaW20
namespace Go.Proofs.Ytfdkbhbnldcbmaa
open Go.RowKit
set_option linter.unusedVariables false
set_option linter.unusedSimpArgs false

theorem wrongP_two {a b : List Sp} (ha : wrongSet a = 0) (hb : wrongSet b = 0) : wrongSets [a, b] = 0 := wrongSets_of (fun s hs => by
  simp at hs
  rcases hs with rfl | rfl
  · exact ha
  · exact hb)
/-- what Meet tells of two right sets -/
def MeetR (s d : List Sp) (e : Ending) : Prop :=
  ∃ A c, e = .returned (.tuple #[.slice A (if 200 < (meetL s d).length then 0 else (meetL s d).length) c, .int .i64 (if 200 < (meetL s d).length then 5 else 0)])
theorem MeetR.big {s d : List Sp} {e : Ending} (h : MeetR s d e) (hb : 200 < (meetL s d).length) : ∃ A c, e = .returned (.tuple #[.slice A 0 c, .int .i64 5]) := by unfold MeetR at h; rwa [if_pos hb, if_pos hb] at h
theorem MeetR.small {s d : List Sp} {e : Ending} (h : MeetR s d e) (hb : ¬ 200 < (meetL s d).length) : ∃ A c, e = .returned (.tuple #[.slice A (meetL s d).length c, .int .i64 0]) := by unfold MeetR at h; rwa [if_neg hb, if_neg hb] at h
set_option maxRecDepth 100000 in
set_option maxHeartbeats 1600000 in
theorem MeetP_any (A : Option Addr) (n c : Nat) (a : List Sp) (B : Option Addr) (m d : Nat) (b : List Sp) (w : World) (hA : Spans w A n c a) (hB : Spans w B m d b) (ga : wrongSet a = 0) (gb : wrongSet b = 0) :
    Calls Try.prog 68 #[.slice A n c, .slice B m d] w fun e w' => MeetR a b e ∧ Ext w w' := by
  have e1 := (Ext.refl w).alloc (.cells #[.slice A n c, .slice B m d] 67)
  have HC := Lib.hid (setsRight_any _ 2 2 [a, b] _ (sets_two 67 hA hB) (by omega))
  rw [wrongP_two ga gb] at HC
  have G1 := good_of ga
  have G2 := good_of gb
  have n1 : n ≤ 200 := by rw [← hA.len]; exact G1.len
  have n2 : m ≤ 200 := by rw [← hB.len]; exact G2.len
  have HM := Lib.hid (fun W (e : Ext w W) => meet_any A n c a B m d b W (hA.ext e) (hB.ext e) (fun x hx => G1.rng x hx) (fun x hx => G2.rng x hx) (by omega) (by omega))
  by_cases hbig : 200 < (meetL a b).length
  · have HV := Lib.hid hbig
    go_enter Try.func68, Try.ntmps68
    go_wp2_with (first
      | (go_at_call 125; refine HC.out.mono ?_; rintro e w1 ⟨rfl, x1⟩; have ex1 := e1.trans x1)
      | (go_at_call 131; refine (HM.out _ ex1).mono ?_; rintro e w2 ⟨v, rfl, ov, x2⟩; obtain ⟨A3, c3, rfl, s3⟩ := ov.top; have e3 := ex1.trans x2)
      | (go_at_call 120; refine (fit_big A3 _ c3 _ hbig s3.cap s3.max).mono ?_; rintro e w' ⟨rfl, rfl⟩))
    go_ret2
    exact ⟨by unfold MeetR; rw [if_pos HV.out, if_pos HV.out]; exact ⟨_, _, rfl⟩, e3⟩
  · have HV := Lib.hid hbig
    go_enter Try.func68, Try.ntmps68
    go_wp2_with (first
      | (go_at_call 125; refine HC.out.mono ?_; rintro e w1 ⟨rfl, x1⟩; have ex1 := e1.trans x1)
      | (go_at_call 131; refine (HM.out _ ex1).mono ?_; rintro e w2 ⟨v, rfl, ov, x2⟩; obtain ⟨A3, c3, rfl, s3⟩ := ov.top; have e3 := ex1.trans x2)
      | (go_at_call 120; refine (fit_small A3 _ c3 _ hbig).mono ?_; rintro e w' ⟨rfl, rfl⟩))
    go_ret2
    exact ⟨by unfold MeetR; rw [if_neg HV.out, if_neg HV.out]; exact ⟨_, _, rfl⟩, e3⟩

set_option maxRecDepth 100000 in
set_option maxHeartbeats 800000 in
theorem refCountP_any (A : Option Addr) (n c : Nat) (l : List Sp) (w : World) (h : Spans w A n c l) :
    Calls Try.prog 59 #[.slice A n c] w fun e w' => e = .returned (.tuple #[.int .i64 (countV l), .int .i64 (wrongSet l)]) ∧ Ext w w' := by
  have HC := Lib.hid (refSetWrong_any A n c l w h)
  by_cases hz : wrongSet l = 0
  · have hV : Hid (countV l = countL l) := Lib.hid (by unfold countV; rw [if_neg (by simp [hz])])
    have G := good_of hz
    have hn : n ≤ 200 := by rw [← h.len]; exact G.len
    have hcap := h.cap
    have hlen := Lib.hid h.len
    rw [hz] at HC
    have HZ := Lib.hid hz; clear hz
    go_enter Try.func59, Try.ntmps59
    go_wp2_with (go_at_call 56; refine HC.out.mono ?_; rintro e w1 ⟨rfl, x1⟩)
    go_loopw [5, 15] (fun s i wr => ∃ k : Nat, k ≤ n ∧ i = .int .i64 k ∧ s = .int .i64 (countL (l.take k)) ∧ Ext w wr) (fun _ i _ => n - (intOf i).toNat)
    case atStart => exact ⟨0, by omega, rfl, rfl, x1⟩
    case round =>
      obtain ⟨k, hk, rfl, rfl, hx⟩ := hrel
      by_cases hlt : k < n
      · obtain ⟨x, hxx⟩ := h.idx hlt
        obtain ⟨b, off, rfl, ⟨_, hne⟩, k1, k2, _, _⟩ := (h.ext hx).span hxx
        have hr := G.rng x (List.mem_of_getElem? hxx)
        have hbd := countL_bd (l.take k) (fun y hy => G.rng y (List.mem_of_mem_take hy))
        rw [List.length_take, hlen.out] at hbd
        have HS : Hid (countL (l.take (k + 1)) = countL (l.take k) + x.hi - x.lo + 1) := Lib.hid (by rw [take_snoc hxx, countL_snoc]; omega)
        clear hxx
        obtain ⟨lo, hi⟩ := x
        simp only [] at hr k1 k2 HS
        generalize countL (l.take k) = z at *
        have hz0 : 0 ≤ z := hbd.1
        have hz1 : z ≤ 223000000 := by omega
        clear hbd
        obtain ⟨hr1, hr2, hr3⟩ := hr
        go_wp2
        go_roundw
        case rel => exact ⟨k + 1, by omega, by go_num, by rw [HS.out], hx.alloc _⟩
        case measure => simp [intOf]; omega
      · go_wp2
        go_ret2
        rw [take_all hlen.out (by omega), hV.out, HZ.out]
        exact ⟨rfl, hx⟩
  · have hV : Hid (countV l = 0) := Lib.hid (by unfold countV; rw [if_pos hz])
    have hb : (wrongSet l != 0) = true := by simpa using hz
    clear hz
    generalize wrongSet l = q at *
    go_enter Try.func59, Try.ntmps59
    go_wp2_with (go_at_call 56; refine HC.out.mono ?_; rintro e w1 ⟨rfl, x1⟩)
    go_ret2
    rw [hV.out]
    exact ⟨rfl, x1⟩


theorem sureP_cons (r : Rule) (l : List Rule) : sureR (r :: l) = (decide (r.cursor = r.target.length) && sureR l) := by unfold sureR; rw [List.all_cons]

set_option maxRecDepth 100000 in
set_option maxHeartbeats 800000 in
theorem refSureP_any (A : Option Addr) (n c : Nat) (l : List Rule) (w : World) (h : Rules w A n c l) :
    Calls Try.prog 75 #[.slice A n c] w fun e w' => e = .returned (.bool (sureR l)) ∧ Ext w w' := by
  have hm := h.max; unfold maxLen at hm
  have hcap := h.cap
  have hlen := Lib.hid h.len
  go_enter Try.func75, Try.ntmps75
  go_wp2
  go_loopw [7] (fun i wr => ∃ k : Nat, k ≤ n ∧ i = .int .i64 k ∧ Hid (sureR l = sureR (l.drop k)) ∧ Ext w wr) (fun i _ => n - (intOf i).toNat)
  case atStart => exact ⟨0, by omega, rfl, Lib.hid rfl, Ext.refl _⟩
  case round =>
    obtain ⟨k, hk, rfl, HK, hx⟩ := hrel
    by_cases hlt : k < n
    · obtain ⟨r, hrr⟩ := h.idx hlt
      obtain ⟨b, off, s, f, A1, n1, c1, A2, n2, c2, A3, n3, c3, A4, n4, c4, q, rfl, ⟨_, hne⟩, hv, k0, k1, k2, k3, k4, k5, k6⟩ := (h.ext hx).rule hrr
      have HD := Lib.hid (drop_cons hrr)
      have h1 : r.cursor = q := hv.cursor
      have h2 : r.target.length = n4 := hv.target.len
      have HR : Hid (sureR l = (decide (q = (n4 : Int)) && sureR (l.drop (k + 1)))) := Lib.hid (by rw [HK.out, HD.out, sureP_cons, h1, h2])
      clear hrr hv h1 h2
      by_cases hq : q = (n4 : Int)
      · have t : (q != (n4 : Int)) = false := by simpa using hq
        have HK2 : Hid (sureR l = sureR (l.drop (k + 1))) := Lib.hid (by rw [HR.out, decide_eq_true hq, Bool.true_and])
        clear hq
        go_wp2
        go_roundw
        case rel => exact ⟨k + 1, by omega, by go_num, HK2, hx.alloc _⟩
        case measure => simp [intOf]; omega
      · have t : (q != (n4 : Int)) = true := by simpa using hq
        have HV : Hid (sureR l = false) := Lib.hid (by rw [HR.out, decide_eq_false hq, Bool.false_and])
        clear hq
        go_wp2
        go_ret
        rw [HV.out]
        exact ⟨rfl, hx.alloc _⟩
    · go_wp2
      go_ret
      rw [HK.out, drop_end hlen.out hlt]
      exact ⟨rfl, hx⟩


set_option maxRecDepth 100000 in
set_option maxHeartbeats 400000 in
theorem Equal_any (A B : Option Addr) (n c n' d : Nat) (l m : List Int) (w : World) (hA : Runes w A n c l) (hB : Runes w B n' d m) :
    Calls Try.prog 104 #[.slice A n c, .slice B n' d] w fun e w' => e = .returned (.bool (decide (l = m))) ∧ Ext w w' := by
  have h1 := Lib.hid hA.len; have h2 := Lib.hid hB.len
  have hmA := hA.max; have hcA := hA.cap; unfold maxLen at hmA
  by_cases hlm : n = n'
  · subst hlm
    have hn : ((n : Int) != (n : Int)) = false := by simp
    go_enter Try.func104, Try.ntmps104
    go_wp2
    go_loopw [13] (fun i wr => ∃ k : Nat, k ≤ n ∧ i = .int .i64 k ∧ l.take k = m.take k ∧ Ext w wr) (fun i _ => n - (intOf i).toNat)
    case atStart => exact ⟨0, by omega, rfl, rfl, Ext.refl _⟩
    case round =>
      obtain ⟨k, hk, rfl, hkk, hx⟩ := hrel
      have HK := Lib.hid hkk; clear hkk
      by_cases hlt : k < n
      · obtain ⟨x, hxx⟩ := hA.idx hlt
        obtain ⟨y, hyy⟩ := hB.idx hlt
        obtain ⟨b, off, rfl, _, hc, _⟩ := (hA.ext hx).rune hxx
        obtain ⟨b2, off2, rfl, _, hc2, _⟩ := (hB.ext hx).rune hyy
        by_cases heq : x = y
        · subst heq
          have HX := Lib.hid hxx; have HY := Lib.hid hyy; clear hxx hyy
          go_wp2
          go_quiet (fail)
          go_wp2
          go_roundw
          case rel => exact ⟨k+1, by omega, by go_num, same_step HK.out HX.out HY.out, hx.drewN _⟩
          case measure => simp [intOf]; omega
        · have hne : (x != y) = true := by simpa using heq
          have hd : decide (l = m) = false := by simp; rintro rfl; rw [hxx] at hyy; cases hyy; exact heq rfl
          have HD := Lib.hid hd
          clear hd heq hxx hyy
          go_wp2
          go_quiet (fail)
          go_wp2
          go_ret
          rw [HD.out]
          exact ⟨rfl, hx.drewN _⟩
      · have hd : decide (l = m) = true := by
          have h3 := HK.out
          rw [take_all h1.out (by omega), take_all h2.out (by omega)] at h3
          simpa using h3
        have HD := Lib.hid hd
        clear hd
        go_wp2
        go_ret
        rw [HD.out]
        exact ⟨rfl, hx⟩
  · have hn : ((n : Int) != (n' : Int)) = true := by simp; omega
    have hd : decide (l = m) = false := by simp; rintro rfl; exact hlm (h1.out.symm.trans h2.out)
    have H := Lib.hid hd; clear hd
    go_enter Try.func104, Try.ntmps104
    go_wp2
    go_ret
    rw [H.out]
    exact ⟨rfl, Ext.refl _⟩

end Go.Proofs.Ytfdkbhbnldcbmaa
