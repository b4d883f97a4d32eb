/- The law SetsCount (printed by gen/gm10c.py). -/
import Derived.Test.YtfdkbhbnldcbmaaM10d
namespace Go.Proofs.Ytfdkbhbnldcbmaa
open Go.RowKit
set_option linter.unusedVariables false
set_option linter.unusedSimpArgs false

theorem of_one {r : Int} (h0 : 0 ≤ r) (h1 : r ≤ 1114111) : ofV [⟨0, r⟩] = [⟨0, r⟩] ∧ ofE [⟨0, r⟩] = 0 := by
  have hok : ∀ x ∈ [(⟨0, r⟩ : Sp)], okSp x := fun x hx => by simp only [List.mem_cons, List.not_mem_nil, or_false] at hx; subst hx; unfold okSp; simp; omega
  have hs : ofS [⟨0, r⟩] = [⟨0, r⟩] := by
    refine (ofS_set hok).uniq ⟨⟨hok, List.pairwise_singleton _ _⟩, fun _ => rfl⟩
  have hb : [(⟨0, r⟩ : Sp)].any spBad = false := by rw [List.any_eq_false]; intro x hx; simpa using okSp_iff.2 (hok x hx)
  have := ofE_ok (l := [⟨0, r⟩]) hb (by rw [hs]; simp)
  exact ⟨by rw [this.2, hs], this.1⟩
theorem canon_one {r : Int} (h0 : 0 ≤ r) (h1 : r ≤ 1114111) : Canon [⟨0, r⟩] :=
  ⟨fun x hx => by simp only [List.mem_cons, List.not_mem_nil, or_false] at hx; subst hx; simp; omega, List.pairwise_singleton _ _⟩
theorem small_two {a b : List Sp} (h : smallB [a, b] = true) : SetN 50 a ∧ SetN 50 b := by
  obtain ⟨h1, h⟩ := smallB_cons h
  obtain ⟨h2, h⟩ := smallB_cons h
  exact ⟨⟨h1.good.canon, h1.len⟩, ⟨h2.good.canon, h2.len⟩⟩
theorem count_good (A : Option Addr) (n c : Nat) (l : List Sp) (w : World) (h : Spans w A n c l) (G : Good l) {z : Int} (hz : countL l = z) :
    Calls Try.prog 58 #[.slice A n c] w fun e w' => e = .returned (.tuple #[.int .i64 z, .int .i64 0]) ∧ Ext w w' := by
  have := Count_any A n c l w h
  rw [countV_good G, wrong_of_good G, hz] at this
  exact this
theorem cntH {l : List Sp} (G : Good l) {z : Int} (hz : countL l = z) : CntH l z := Lib.hid fun W A c hs => count_good A _ c l W hs G hz

set_option maxRecDepth 100000 in
set_option maxHeartbeats 4000000 in
theorem SetsCount_any (Pa : Option Addr) (na qa : Nat) (a : List Sp) (Pb : Option Addr) (nb qb : Nat) (b : List Sp) (k : Int) (w : World)
    (ha : Spans w Pa na qa a) (hb : Spans w Pb nb qb b) (hk : i64 k) :
    Calls Try.prog 18 #[.slice Pa na qa, .slice Pb nb qb, .int .i64 k] w fun e w' => e = .returned (.bool true) ∧ Ext w w' := by
  obtain rfl := ha.len; obtain rfl := hb.len
  by_cases hs : smallB [a, b] = true
  · obtain ⟨ka, kb⟩ := small_two hs
    have ga := ka.good (by omega); have gb := kb.good (by omega)
    have kn := ka.not; have ku := ka.or kb; have km := ka.and kb
    have gn := kn.good (by omega); have gu := ku.good (by omega); have gm := km.good (by omega)
    have ca := ka.canon; have cb := kb.canon
    have F1 := cnt_not ca
    have F2 := cnt_or ca cb ku.canon km.canon (or_has ca cb) (and_has ca cb)
    have F3 := subSet_count ca cb km.canon (and_has ca cb)
    have P1 := countL_pos ca; have P2 := countL_pos cb; have P3 := countL_pos kn.canon; have P4 := countL_pos ku.canon; have P5 := countL_pos km.canon
    have Q2 := cnt_not cb; have P6 := countL_pos kb.not.canon
    have Q4 := cnt_not ku.canon; have P7 := countL_pos ku.not.canon
    have Q5 := cnt_not km.canon; have P8 := countL_pos km.not.canon
    have HN : Hid (∀ W, Ext w W → Res 65 #[.slice Pa a.length qa] W (notL a)) := Lib.hid (fun W e => by
      have := NotS_any Pa a.length qa a W (ha.ext e)
      rw [wrong_one ga] at this
      exact this.mono fun e w' h => ⟨setO_ok gn.len h.1, h.2⟩)
    have HU : Hid (∀ W, Ext w W → Res 67 #[.slice Pa a.length qa, .slice Pb b.length qb] W (ofS (a ++ b))) := Lib.hid (fun W e => by
      have := UnionS_any Pa a.length qa a Pb b.length qb b W (ha.ext e) (hb.ext e)
      rw [wrong_two ga gb] at this
      exact this.mono fun e w' h => ⟨setO_ok gu.len h.1, h.2⟩)
    have HM : Hid (∀ W, Ext w W → Res 68 #[.slice Pa a.length qa, .slice Pb b.length qb] W (meetL a b)) := Lib.hid (fun W e => by
      have := MeetS_any Pa a.length qa a Pb b.length qb b W (ha.ext e) (hb.ext e)
      rw [wrong_two ga gb] at this
      exact this.mono fun e w' h => ⟨setO_ok gm.len h.1, h.2⟩)
    have HS := Lib.hid (fun W (e : Ext w W) => Sub_any Pa a.length qa a Pb b.length qb b W (ha.ext e) (hb.ext e) (wrong_of_good ga) (wrong_of_good gb))
    rw [F3] at HS
    have HT := Lib.hid (fun W (e : Ext w W) => Nth_any Pa a.length qa a k W (ha.ext e) hk)
    have t1 : (countL a + countL (notL a) != 1114112) = false := by simp; omega
    have t2 : (countL (ofS (a ++ b)) + countL (meetL a b) != countL a + countL b) = false := by simp; omega
    have u1 : IntKind.i64.wrap (countL a + countL (notL a)) = countL a + countL (notL a) := IntWalk.i64_in _ (by omega)
    have u2 : IntKind.i64.wrap (countL (ofS (a ++ b)) + countL (meetL a b)) = countL (ofS (a ++ b)) + countL (meetL a b) := IntWalk.i64_in _ (by omega)
    have u3 : IntKind.i64.wrap (countL a + countL b) = countL a + countL b := IntWalk.i64_in _ (by omega)
    by_cases hneg : k < 0
    · rw [nthL_neg ga hneg] at HT
      exact count_neg Pa qa a Pb qb b _ _ _ _ _ _ _ _ _ k 0 3 w ha hb hs HN HU HM (cntH ga rfl) (cntH gb rfl) (cntH gn rfl) (cntH gu rfl) (cntH gm rfl) HS HT t1 t2 rfl u1 u2 u3 (by simpa using hneg) (by decide) (by decide)
    · have hk0 : 0 ≤ k := by omega
      rw [nthL_in ga hk0] at HT
      by_cases hin : k < countL a
      · obtain ⟨r, hr1, hr2, hr3, hr4, hr5⟩ := nth_in ca hk0 hin
        rw [hr1] at HT
        have hir : i32 r := i32_of ⟨hr3, by omega⟩
        have hi0 : i32 0 := i32_of ⟨by omega, by omega⟩
        have g1 : Good [(⟨0, r⟩ : Sp)] := (canon_one hr3 hr4).good (by simp)
        have k1 : SetN 1 [(⟨0, r⟩ : Sp)] := ⟨canon_one hr3 hr4, by simp⟩
        have kx := ka.and k1
        have hx : countL (meetL a [⟨0, r⟩]) = k + 1 := by
          rw [count_cnt kx.canon, ← hr5]
          unfold cnt
          rw [cntN_congr]
          intro n n0 n1
          rw [and_has ca (canon_one hr3 hr4), has_cons, has_nil, Bool.or_false]
          unfold inSp
          simp only []
          rw [decide_eq_true n0, Bool.true_and]
        have HH : Hid (∀ W, Ext w W → Calls Try.prog 51 #[.slice Pa a.length qa, .int .i32 r] W fun e w' => e = .returned (.bool true) ∧ Ext W w') := Lib.hid (fun W e => by
          have := setsHas_any Pa a.length qa a r W (ha.ext e) (wrong_of_good ga)
          rw [hr2] at this
          exact this)
        have HO := Lib.hid (fun (W : World) => by
          have := Of_any _ 1 1 [⟨0, r⟩] _ (span_new W ⟨0, r⟩ 80 hi0 hir) (by omega)
          rw [(of_one hr3 hr4).1, (of_one hr3 hr4).2] at this
          exact this)
        have HMr : Hid (∀ W B d, Ext w W → Spans W B 1 d [⟨0, r⟩] → Res 68 #[.slice Pa a.length qa, .slice B 1 d] W (meetL a [⟨0, r⟩])) := Lib.hid (fun W B d e hs => by
          have := MeetS_any Pa a.length qa a B 1 d [⟨0, r⟩] W (ha.ext e) hs
          rw [wrong_two ga g1] at this
          exact this.mono fun e w' h => ⟨setO_ok (by have := kx.len; omega) h.1, h.2⟩)
        exact count_in Pa qa a Pb qb b _ _ _ _ _ _ _ _ _ k r _ w ha hb hs HN HU HM (cntH ga rfl) (cntH gb rfl) (cntH gn rfl) (cntH gu rfl) (cntH gm rfl) HS HT t1 t2 rfl u1 u2 u3 HH HO HMr (cntH (kx.good (by omega)) hx)
          (by simpa using hneg) (by simp; omega) (IntWalk.i64_in _ (by omega))
      · rw [nth_out ca (by omega)] at HT
        exact count_out Pa qa a Pb qb b _ _ _ _ _ _ _ _ _ k 0 6 w ha hb hs HN HU HM (cntH ga rfl) (cntH gb rfl) (cntH gn rfl) (cntH gu rfl) (cntH gm rfl) HS HT t1 t2 rfl u1 u2 u3 (by simpa using hneg) (by simp; omega) (by decide) (by decide)
  · have hs' : smallB [a, b] = false := by simpa using hs
    have C1 := Lib.hid (alive2_any w)
    have C2 := Lib.hid (fun W (e : Ext w W) => small_any _ 2 2 [a, b] _ (sets_two 67 (ha.ext e) (hb.ext e)) (by omega))
    rw [hs'] at C2
    clear hs hs'
    go_enter Try.func18, Try.ntmps18
    go_wp2_with (first
      | (go_at_call 52; refine C1.out.mono ?_; rintro e w1 ⟨rfl, x1⟩; have x1' := x1.alloc (.cells #[.slice Pa a.length qa, .slice Pb b.length qb] 67))
      | (go_at_call 70; refine (C2.out w1 x1).mono ?_; rintro e w2 ⟨rfl, x2⟩))
    go_ret
    exact ⟨rfl, x1'.trans x2⟩

end Go.Proofs.Ytfdkbhbnldcbmaa
