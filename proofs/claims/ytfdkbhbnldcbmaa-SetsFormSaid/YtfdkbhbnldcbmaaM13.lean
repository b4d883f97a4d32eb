/- The law SetsForm: its plain part, and its walk. -/
import Derived.Test.YtfdkbhbnldcbmaaW37
import Derived.Test.YtfdkbhbnldcbmaaPl4
import Derived.StillTailTactics
import Derived.Deep.RegionHeld3
import Derived.Deep.Cut
import Derived.Deep.CutRange
namespace Go.Proofs.Ytfdkbhbnldcbmaa
open Go.RowKit
set_option linter.unusedVariables false
set_option linter.unusedSimpArgs false

/-! ### plain -/
theorem ofS_canon {l : List Sp} (h : Canon l) : ofS l = l := (ofS_set h.rng).uniq ⟨h, fun _ => rfl⟩
theorem any_of_ok {l : List Sp} (h : ∀ x ∈ l, okSp x) : l.any spBad = false := by
  rw [List.any_eq_false]; intro x hx; simpa using okSp_iff.2 (h x hx)
/-- what came of right spans is a right set -/
theorem of_good {l : List Sp} (h : ofE l = 0) : (∀ x ∈ l, okSp x) ∧ ofV l = ofS l ∧ Canon (ofS l) ∧ (ofS l).length ≤ 200 := by
  by_cases hb : l.any spBad = true
  · rw [(ofE_bad hb).1] at h; simp at h
  · have hnb : l.any spBad = false := by simpa using hb
    by_cases hg : 200 < (ofS l).length
    · rw [(ofE_big hnb hg).1] at h; simp at h
    · exact ⟨okAll hnb, (ofE_ok hnb hg).2, (ofS_set (okAll hnb)).1, by omega⟩
theorem of_same {l m : List Sp} (h : ofE l = 0) (hm : ∀ x ∈ m, okSp x) (he : ∀ r, has m r = has l r) : ofV m = ofV l ∧ ofE m = 0 := by
  obtain ⟨h1, h2, h3, h4⟩ := of_good h
  have e : ofS m = ofS l := (ofS_set hm).uniq ⟨h3, fun r => ((ofS_set h1).2 r).trans (he r).symm⟩
  obtain ⟨k1, k2⟩ := ofE_ok (any_of_ok hm) (by rw [e]; omega)
  exact ⟨by rw [k2, h2, e], k1⟩
theorem of_twice {l : List Sp} (h : ofE l = 0) : ofV (ofV l) = ofV l ∧ ofE (ofV l) = 0 := by
  obtain ⟨h1, h2, h3, h4⟩ := of_good h
  have e : ofS (ofS l) = ofS l := ofS_canon h3
  obtain ⟨k1, k2⟩ := ofE_ok (any_of_ok (l := ofS l) h3.rng) (by rw [e]; omega)
  rw [h2]
  exact ⟨by rw [k2, e], k1⟩
theorem of_wrong {l : List Sp} (h : ofE l = 0) : wrongSet (ofV l) = 0 := by
  obtain ⟨h1, h2, h3, h4⟩ := of_good h
  rw [h2]
  exact wrong_of_good (h3.good h4)
theorem has_rev (l : List Sp) (r : Int) : has l.reverse r = has l r := has_perm (List.reverse_perm l) r
theorem has_app (a b : List Sp) (r : Int) : has (a ++ b) r = (has a r || has b r) := by unfold has; rw [List.any_append]
/-- a span cut in two -/
theorem has_cut {l : List Sp} {x : Sp} (hx : x ∈ l) (ho : x.lo < x.hi) (r : Int) : has (l.reverse ++ [⟨x.lo, x.lo⟩, ⟨x.lo + 1, x.hi⟩]) r = has l r := by
  rw [has_app, has_rev]
  cases h : has l r
  · have : inSp x r = false := by
      cases hi : inSp x r
      · rfl
      · have : has l r = true := by unfold has; exact List.any_eq_true.2 ⟨x, hx, hi⟩
        rw [h] at this; cases this
    simp only [inSp, Bool.and_eq_false_iff, decide_eq_false_iff_not] at this
    rw [Bool.false_or]
    simp only [has, List.any_cons, List.any_nil, Bool.or_false, inSp, Bool.or_eq_false_iff, Bool.and_eq_false_iff, decide_eq_false_iff_not]
    omega
  · simp
theorem rev_take {l : List Sp} {k : Nat} {x : Sp} (h : l[k]? = some x) : (l.drop (k + 1)).reverse ++ [x] = (l.drop k).reverse := by
  rw [drop_cons h, List.reverse_cons]

/-- what was laid turned round, and perhaps cut, has the same runes -/
def BackOk (l : List Sp) (n : Nat) (w0 wx : World) (v : Value) : Prop := ∃ m A c, v = .slice A m.length c ∧ Spans wx A m.length c m ∧ m.length ≤ n + 2 ∧ (∀ x ∈ m, okSp x) ∧ (∀ r, has m r = has l r) ∧ Ext w0 wx
/-- a row of two spans -/
theorem spans_new2 (w : World) (x y : Sp) (t : TypeId) (hx1 : i32 x.lo) (hx2 : i32 x.hi) (hy1 : i32 y.lo) (hy2 : i32 y.hi) :
    Spans (w.alloc (.cells #[.int .i32 x.lo, .int .i32 x.hi, .int .i32 y.lo, .int .i32 y.hi] t)) (some ⟨w.heap.size, 0, none⟩) 2 2 [x, y] :=
  spans_cd w t x.lo x.hi y.lo y.hi hx1 hx2 hy1 hy2

set_option maxRecDepth 100000 in
set_option maxHeartbeats 16000000 in
theorem SetsForm_any (A : Option Addr) (n c : Nat) (l : List Sp) (at_ : Int) (w : World) (hA : Spans w A n c l) (hn : n * 8 ≤ 140737488351232) (hat : i64 at_) :
    Calls Try.prog 14 #[.slice A n c, .int .i64 at_] w fun e w' => e = .returned (.bool true) ∧ Ext w w' := by
  have C0 := Lib.hid (alive2_any w)
  have CO := Lib.hid (fun W (e : Ext w W) => Of_any A n c l W (hA.ext e) (by omega))
  have hlen := Lib.hid hA.len
  have hcap := hA.cap
  have hmax := hA.max
  unfold maxLen at hmax
  by_cases hz : ofE l = 0
  · obtain ⟨g1, g2, g3, g4⟩ := of_good hz
    have G1 := Lib.hid g1
    have C2 := Lib.hid (fun W A2 c2 (hs : Spans W A2 (ofV l).length c2 (ofV l)) => setsWrong_any A2 _ c2 (ofV l) W hs)
    rw [of_wrong hz] at C2
    have hvl : (ofV l).length ≤ 200 := by rw [g2]; exact g4
    have C3 := Lib.hid (fun W A2 c2 (hs : Spans W A2 (ofV l).length c2 (ofV l)) => Of_any A2 _ c2 (ofV l) W hs (by omega))
    rw [(of_twice hz).1, (of_twice hz).2] at C3
    have C4 : Hid (∀ W m X d, Spans W X m.length d m → m.length ≤ n + 2 → (∀ x ∈ m, okSp x) → (∀ r, has m r = has l r) → Calls Try.prog 53 #[.slice X m.length d] W fun e w' => SetR (ofV l) 0 w' e ∧ Ext W w') := Lib.hid (fun W m X d hs hm hok hh => by
      have := Of_any X m.length d m W hs (by omega)
      rw [(of_same hz hok hh).1, (of_same hz hok hh).2] at this
      exact this)
    rw [hz] at CO
    clear hz g1 g2 g3 g4
    generalize ofV l = sv at *
    go_enter Try.func14, Try.ntmps14
    go_wp2_with (first
      | (go_at_call 52; refine C0.out.mono ?_; rintro e w1 ⟨rfl, y1⟩; have e1 := Lib.hid y1; clear y1)
      | (go_at_call 53; (with_reducible refine (CO.out _ e1.out).mono ?_); rintro e w2 ⟨⟨A2, c2, rfl, t2⟩, y2⟩; have e2 := Lib.hid (e1.out.trans y2); have s2 := Lib.hid t2; clear t2 y2)
      | (go_at_call 54; (with_reducible refine (C2.out _ _ _ s2.out).mono ?_); rintro e w3 ⟨rfl, y3⟩; have x3 := Lib.hid y3; have e3 := Lib.hid (e2.out.trans y3); clear y3)
      | (go_at_call 53; (with_reducible refine (C3.out _ _ _ (s2.out.ext x3.out)).mono ?_); rintro e w4 ⟨⟨A4, c4, rfl, t4⟩, y4⟩; have x4 := Lib.hid (x3.out.trans y4); have e4 := Lib.hid (e3.out.trans y4); have s4 := Lib.hid t4; clear t4 y4))
    clear C0 CO C2 C3 e1 e2 e3 x3
    have hsv := s2.out.cap
    go_loopw [8, 9] (fun v i wr => ∃ z : Int, -1 ≤ z ∧ z < n ∧ i = .int .i64 z ∧ OwnR rSpan 80 2 w4.heap.size wr v ((l.drop (z + 1).toNat).reverse) ∧ Ext w4 wr) (fun _ i _ => (intOf i + 1).toNat)
    case atStart => exact ⟨(n : Int) - 1, by omega, by omega, rfl, by rw [show ((n : Int) - 1 + 1).toNat = n by omega, List.drop_of_length_le (by rw [hlen.out]; omega)]; exact OwnR.nil _ _ _ _ _, Ext.refl _⟩
    case round =>
      obtain ⟨z, hz1, hz2, rfl, ow, hx⟩ := hrel
      by_cases hlt : 0 ≤ z
      · obtain ⟨k, rfl⟩ := Int.eq_ofNat_of_zero_le hlt
        rw [show ((k : Int) + 1).toNat = k + 1 by omega] at ow
        obtain ⟨x, hxx⟩ := hA.idx (k := k) (by omega)
        obtain ⟨b, off, rfl, _, c1, c2', xb1, xb2⟩ := (hA.ext (e4.out.trans hx)).span hxx
        have HR := Lib.hid (rev_take hxx)
        have hll : (l.drop (k + 1)).reverse.length + 1 ≤ n := by rw [List.length_reverse, List.length_drop, hlen.out]; omega
        clear hxx
        generalize (l.drop (k + 1)).reverse = o at *
        have ow6 := ow.ext (keep_span bot) ((Ext.refl wr).alloc (.cells #[.int .i32 x.lo, .int .i32 x.hi] 80))
        have s6 := span_new wr x 80 xb1 xb2
        have hx6 := hx.alloc (.cells #[.int .i32 x.lo, .int .i32 x.hi] 80)
        obtain ⟨AO, cO, rfl, hcO, hmO⟩ := ow.form
        have hb1 : (o.length + 1) * 8 ≤ 140737488355328 := by omega
        have hb2 : o.length + 1 ≤ maxLen := by unfold maxLen; omega
        clear ow
        go_wp2_with (at_builtin
                     refine wpList_app T_span rfl (.tmp 39) (.tmp 44) rfl rfl ow6 rfl s6 (fun _ _ h => h) one_span (keep_span bot) (bot_no _) hb1 hb2 hx6.size ?_
                     intro v7 w7 o7 g7 hat7
                     have g8 := hx6.app g7 ow6)
        go_roundw
        case rel => exact ⟨(k : Int) - 1, by omega, by omega, rfl, by rw [show ((k : Int) - 1 + 1).toNat = k by omega, ← HR.out]; exact o7, g8⟩
        case measure => first | (simp [intOf]; done) | (simp [intOf]; omega)
      · obtain rfl : z = -1 := by omega
        have t1 : decide ((0 : Int) ≤ -1) = false := by decide
        rw [show ((-1 : Int) + 1).toNat = 0 by decide, List.drop_zero] at ow
        clear hlt hz1 hz2
        go_upto_region 14 with fail
        obtain ⟨A5, c5, rfl, s5⟩ := ow.top
        have s5 : Spans wr A5 l.reverse.length c5 l.reverse := s5
        have hc5 := s5.cap
        have H5 : Hid (l.reverse.length = n) := Lib.hid (by rw [List.length_reverse, hlen.out])
        rw [H5.out] at s5 hc5 ow ⊢
        by_cases a1 : 0 ≤ at_
        · obtain ⟨q, rfl⟩ := Int.eq_ofNat_of_zero_le a1
          by_cases a2 : q < n
          · obtain ⟨x, hxx⟩ := hA.idx a2
            obtain ⟨b, off, rfl, _, z1, z2, xb1, xb2⟩ := (hA.ext e4.out).span hxx
            have c1 := hx.cell z1
            have c2' := hx.cell z2
            have Z1 := Lib.hid z1; have Z2 := Lib.hid z2
            clear z1 z2
            have t1 : decide ((0 : Int) ≤ (q : Int)) = true := by simp
            have t2 : (q : Int) < (n : Int) := by omega
            by_cases a3 : x.lo < x.hi
            · have t3 : decide (x.lo < x.hi) = true := by simpa using a3
              obtain ⟨k1, k2, k3⟩ := G1.out x (List.mem_of_getElem? hxx)
              have HC := Lib.hid (has_cut (List.mem_of_getElem? hxx) a3)
              have hi1 : i32 (x.lo + 1) := ⟨by omega, by omega⟩
              clear hxx
              go_quiet (fail)
              generalize hw5 : wr.drewN _ = w5
              have e5 : Ext wr w5 := by rw [← hw5]; exact (Ext.refl _).drewN _
              clear hw5
              have d1 := e5.cell c1
              have d2 := e5.cell c2'
              have ow5 := ow.ext (keep_span bot) e5
              clear c1 c2' ow s5
              have hwx : IntKind.i32.wrap (x.lo + 1) = x.lo + 1 := IntWalk.i32_in _ (by omega)
              have eb := ((Ext.refl w5).drew).alloc (.cells #[.int .i32 x.lo, .int .i32 x.lo, .int .i32 (x.lo + 1), .int .i32 x.hi] 80)
              have ow6 := ow5.ext (keep_span bot) eb
              have s6 := spans_new2 w5.drew ⟨x.lo, x.lo⟩ ⟨x.lo + 1, x.hi⟩ 80 xb1 xb1 hi1 xb2
              have hx6 := (hx.trans e5).trans eb
              have hb1 : (l.reverse.length + 2) * 8 ≤ 140737488355328 := by rw [H5.out]; omega
              have hb2 : l.reverse.length + 2 ≤ maxLen := by rw [H5.out]; unfold maxLen; omega
              have ow6' : OwnR rSpan 80 2 w4.heap.size (w5.drew.alloc (.cells #[.int .i32 x.lo, .int .i32 x.lo, .int .i32 (x.lo + 1), .int .i32 x.hi] 80)) (.slice A5 n c5) l.reverse := ow6
              clear ow5 ow6
              go_wp2_with fail
              go_region_held3 (fun w' => w'.cell? ⟨b, off + q * 2, none⟩ = some (.int .i32 x.lo) ∧ w'.cell? ⟨b, off + q * 2 + 1, none⟩ = some (.int .i32 x.hi))
                (first | go_keep | exact ⟨p1, p2⟩)
                (first
                  | (refine step_app T_span rfl (.tmp 67) (.tmp 91) rfl rfl ow6' rfl s6 (fun _ _ h => h) one_span (keep_span bot) (bot_no _) hb1 hb2 hx6.size ?_
                     intro v7 w7 o7 g7 hat7
                     have f7 := hx6.app g7 ow6'
                     have p1 := f7.cell Z1.out
                     have p2 := f7.cell Z2.out))
              obtain ⟨A7, c7, rfl, s7⟩ := o7.top
              have e7 := Lib.hid f7
              have s7' : Spans w7 A7 _ c7 _ := s7
              have hm7 : (l.reverse ++ [(⟨x.lo, x.lo⟩ : Sp), ⟨x.lo + 1, x.hi⟩]).length = n + 2 := by rw [List.length_append, H5.out]; rfl
              have C5 := Lib.hid (C4.out w7 _ A7 c7 s7' (by rw [hm7]; omega) (fun y hy => by
                rcases List.mem_append.1 hy with hy | hy
                · exact G1.out y (by simpa using hy)
                · simp only [List.mem_cons, List.not_mem_nil, or_false] at hy
                  rcases hy with rfl | rfl <;> (unfold okSp; simp only []; omega)) HC.out)
              rw [hm7] at C5 ⊢
              clear C4 s7 s7' o7 hm7 p1 p2 d1 d2 ow6' hx6 eb g7 hat7
              go_wp2_with (first
                | (go_at_call 53; refine C5.out.mono ?_; rintro e w8 ⟨⟨A8, c8, rfl, t8⟩, y8⟩; have s8 := Lib.hid t8; have x8 := Lib.hid y8; clear t8 y8)
                | (go_at_call 55; (with_reducible refine (Same2_any A2 A4 _ c2 _ _ w8 (s2.out.ext (x4.out.trans (e7.out.trans x8.out))) (s4.out.ext (e7.out.trans x8.out))).mono ?_); rintro e w9 ⟨rfl, y9⟩; have x9 := Lib.hid y9; clear y9)
                | (go_at_call 55; (with_reducible refine (Same2_any A2 A8 _ c2 _ _ w9 (s2.out.ext (x4.out.trans (e7.out.trans (x8.out.trans x9.out)))) (s8.out.ext x9.out)).mono ?_); rintro e w10 ⟨rfl, y10⟩; have x10 := Lib.hid y10; clear y10))
              go_ret
              exact ⟨rfl, e4.out.trans (e7.out.trans (x8.out.trans (x9.out.trans x10.out)))⟩
            · have t3 : decide (x.lo < x.hi) = false := by simpa using a3
              clear hxx
              go_quiet (fail)
              generalize hw5 : wr.drewN _ = w5
              have e5 : Ext wr w5 := by rw [← hw5]; exact (Ext.refl _).drewN _
              clear hw5
              have e7 := Lib.hid (hx.trans e5)
              have C5 := Lib.hid (by have := C4.out w5 l.reverse A5 c5 (by rw [H5.out]; exact s5.ext e5) (by rw [H5.out]; omega) (fun x hx => G1.out x (by simpa using hx)) (has_rev l); rw [H5.out] at this; exact this)
              clear C4 s5 e5
              go_wp2_with (first
                | (go_at_call 53; refine C5.out.mono ?_; rintro e w8 ⟨⟨A8, c8, rfl, t8⟩, y8⟩; have s8 := Lib.hid t8; have x8 := Lib.hid y8; clear t8 y8)
                | (go_at_call 55; (with_reducible refine (Same2_any A2 A4 _ c2 _ _ w8 (s2.out.ext (x4.out.trans (e7.out.trans x8.out))) (s4.out.ext (e7.out.trans x8.out))).mono ?_); rintro e w9 ⟨rfl, y9⟩; have x9 := Lib.hid y9; clear y9)
                | (go_at_call 55; (with_reducible refine (Same2_any A2 A8 _ c2 _ _ w9 (s2.out.ext (x4.out.trans (e7.out.trans (x8.out.trans x9.out)))) (s8.out.ext x9.out)).mono ?_); rintro e w10 ⟨rfl, y10⟩; have x10 := Lib.hid y10; clear y10))
              go_ret
              exact ⟨rfl, e4.out.trans (e7.out.trans (x8.out.trans (x9.out.trans x10.out)))⟩
          · have t1 : decide ((0 : Int) ≤ (q : Int)) = true := by simp
            have t2 : decide ((q : Int) < (n : Int)) = false := by simp; omega
            go_quiet (fail)
            generalize hw5 : wr.drewN _ = w5
            have e5 : Ext wr w5 := by rw [← hw5]; exact (Ext.refl _).drewN _
            clear hw5
            have e7 := Lib.hid (hx.trans e5)
            have C5 := Lib.hid (by have := C4.out w5 l.reverse A5 c5 (by rw [H5.out]; exact s5.ext e5) (by rw [H5.out]; omega) (fun x hx => G1.out x (by simpa using hx)) (has_rev l); rw [H5.out] at this; exact this)
            clear C4 s5 e5
            go_wp2_with (first
              | (go_at_call 53; refine C5.out.mono ?_; rintro e w8 ⟨⟨A8, c8, rfl, t8⟩, y8⟩; have s8 := Lib.hid t8; have x8 := Lib.hid y8; clear t8 y8)
              | (go_at_call 55; (with_reducible refine (Same2_any A2 A4 _ c2 _ _ w8 (s2.out.ext (x4.out.trans (e7.out.trans x8.out))) (s4.out.ext (e7.out.trans x8.out))).mono ?_); rintro e w9 ⟨rfl, y9⟩; have x9 := Lib.hid y9; clear y9)
              | (go_at_call 55; (with_reducible refine (Same2_any A2 A8 _ c2 _ _ w9 (s2.out.ext (x4.out.trans (e7.out.trans (x8.out.trans x9.out)))) (s8.out.ext x9.out)).mono ?_); rintro e w10 ⟨rfl, y10⟩; have x10 := Lib.hid y10; clear y10))
            go_ret
            exact ⟨rfl, e4.out.trans (e7.out.trans (x8.out.trans (x9.out.trans x10.out)))⟩
        · have t1 : decide (0 ≤ at_) = false := by simpa using a1
          go_quiet (fail)
          generalize hw5 : wr.drewN _ = w5
          have e5 : Ext wr w5 := by rw [← hw5]; exact (Ext.refl _).drewN _
          clear hw5
          have e7 := Lib.hid (hx.trans e5)
          have C5 := Lib.hid (by have := C4.out w5 l.reverse A5 c5 (by rw [H5.out]; exact s5.ext e5) (by rw [H5.out]; omega) (fun x hx => G1.out x (by simpa using hx)) (has_rev l); rw [H5.out] at this; exact this)
          clear C4 s5 e5
          go_wp2_with (first
            | (go_at_call 53; refine C5.out.mono ?_; rintro e w8 ⟨⟨A8, c8, rfl, t8⟩, y8⟩; have s8 := Lib.hid t8; have x8 := Lib.hid y8; clear t8 y8)
            | (go_at_call 55; (with_reducible refine (Same2_any A2 A4 _ c2 _ _ w8 (s2.out.ext (x4.out.trans (e7.out.trans x8.out))) (s4.out.ext (e7.out.trans x8.out))).mono ?_); rintro e w9 ⟨rfl, y9⟩; have x9 := Lib.hid y9; clear y9)
            | (go_at_call 55; (with_reducible refine (Same2_any A2 A8 _ c2 _ _ w9 (s2.out.ext (x4.out.trans (e7.out.trans (x8.out.trans x9.out)))) (s8.out.ext x9.out)).mono ?_); rintro e w10 ⟨rfl, y10⟩; have x10 := Lib.hid y10; clear y10))
          go_ret
          exact ⟨rfl, e4.out.trans (e7.out.trans (x8.out.trans (x9.out.trans x10.out)))⟩
  · have HV : Hid (ofV l = []) := Lib.hid (by unfold ofV; rw [if_pos hz])
    have t0 : (ofE l != 0) = true := by simpa using hz
    rw [HV.out] at CO
    clear hz HV
    generalize ofE l = q at *
    go_enter Try.func14, Try.ntmps14
    go_wp2_with (first
      | (go_at_call 52; refine C0.out.mono ?_; rintro e w1 ⟨rfl, y1⟩; have e1 := Lib.hid y1; clear y1)
      | (go_at_call 53; refine (CO.out _ e1.out).mono ?_; rintro e w2 ⟨⟨A2, c2, rfl, s2⟩, y2⟩; have e2 := Lib.hid (e1.out.trans y2); clear s2 y2))
    go_ret
    exact ⟨rfl, e2.out⟩

end Go.Proofs.Ytfdkbhbnldcbmaa
