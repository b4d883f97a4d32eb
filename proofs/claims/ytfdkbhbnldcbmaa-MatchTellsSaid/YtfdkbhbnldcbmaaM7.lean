/- Walk of the law MatchTells. -/
import Derived.Test.YtfdkbhbnldcbmaaLaw7
import Derived.Test.YtfdkbhbnldcbmaaW8
import Derived.Test.YtfdkbhbnldcbmaaW10
import Derived.Test.YtfdkbhbnldcbmaaW11
import Derived.Test.YtfdkbhbnldcbmaaW12
namespace Go.Proofs.Ytfdkbhbnldcbmaa
open Go.RowKit
set_option linter.unusedVariables false
set_option linter.unusedSimpArgs false

section
variable (s f : Bool) (A1 : Option Addr) (n1 c1 : Nat) (A2 : Option Addr) (n2 c2 : Nat) (A3 : Option Addr) (n3 c3 : Nat) (A4 : Option Addr) (n4 c4 : Nat) (q : Int) (r : Rule) (w : World)

set_option maxRecDepth 100000 in
set_option maxHeartbeats 4000000 in
theorem MatchTells_any (A : Option Addr) (n c : Nat) (t : List Int) (at_ : Int) (h : Runes w A n c t) (hv : RuleV w s f A1 n1 c1 A2 n2 c2 A3 n3 c3 A4 n4 c4 q r) :
    Calls Try.prog 3 #[.agg #[.bool s, .bool f, .slice A1 n1 c1, .slice A2 n2 c2, .slice A3 n3 c3, .slice A4 n4 c4, .int .i64 q], .slice A n c, .int .i64 at_] w
      fun e w' => e = .returned (.bool true) ∧ Ext w w' := by
  have e1 := (Ext.refl w).alloc (.cells #[.bool s, .bool f, .slice A1 n1 c1, .slice A2 n2 c2, .slice A3 n3 c3, .slice A4 n4 c4, .int .i64 q] 25)
  have r1 := RuleAt.new (s := s) (f := f) (A1 := A1) (n1 := n1) (c1 := c1) (A2 := A2) (n2 := n2) (c2 := c2) (A3 := A3) (n3 := n3) (c3 := c3) (A4 := A4) (n4 := n4) (c4 := c4) (q := q) w 25
  have H := Lib.hid h; have V := Lib.hid hv
  generalize hW1 : w.alloc (.cells #[.bool s, .bool f, .slice A1 n1 c1, .slice A2 n2 c2, .slice A3 n3 c3, .slice A4 n4 c4, .int .i64 q] 25) = w1 at e1 r1
  have HW1 := Lib.hid hW1; clear hW1
  have C1 := Lib.hid (fun W (e : Ext w W) => refWrong_any s f A1 n1 c1 A2 n2 c2 A3 n3 c3 A4 n4 c4 q r W (hv.ext (e.agree top)))
  have C2 := Lib.hid (fun W (e : Ext w W) => Wrong_any s f A1 n1 c1 A2 n2 c2 A3 n3 c3 A4 n4 c4 q r W (hv.ext (e.agree top)))
  have C3 := Lib.hid (fun W (e : Ext w W) => Text_any A n c t W (h.ext e))
  have C4 := Lib.hid (fun W (e : Ext w W) => refText_any A n c t W (h.ext e))
  have C5 := Lib.hid (fun W (e : Ext w W) => Matches_any s f A1 n1 c1 A2 n2 c2 A3 n3 c3 A4 n4 c4 q r W A n c t at_ (h.ext e) (hv.ext (e.agree top)))
  have C6 := Lib.hid (fun W (e : Ext w W) => Put_any s f A1 n1 c1 A2 n2 c2 A3 n3 c3 A4 n4 c4 q r W A n c t at_ (h.ext e) (hv.ext (e.agree top)))
  have hlen := Lib.hid h.len
  have rb := r1
  obtain ⟨k0, k1, k2, k3, k4, k5, k6⟩ := r1.box
  clear h hv r1
  by_cases tr : wrongRule r = 0
  · have TR := Lib.hid tr
    by_cases tt : wrongText t = 0
    · have TT := Lib.hid tt
      have hlt := (text_of tt).1
      rw [hlen.out] at hlt
      have ok := Lib.hid (ok_of tr)
      clear tr tt
      by_cases ta : at_ < 0
      · have me : matchesErr r t at_ = 3 := by unfold matchesErr; rw [if_neg (by simp [TR.out]), if_neg (by simp [TT.out]), if_pos (Or.inl ta)]
        have mo : matchesOk r t at_ = false := by unfold matchesOk; rw [me]; simp
        have ME := Lib.hid me; have MO := Lib.hid mo; clear me mo
        go_enter Try.func3, Try.ntmps3
        go_wp2_with fail
        rw [HW1.out]
        go_wp2_with (first
          | (go_at_call 22; refine (C1.out _ e1).mono ?_; rintro e w2 ⟨rfl, x2⟩; have e2 := e1.trans x2; have b2 := rb.ext x2; obtain ⟨k20, k21, k22, k23, k24, k25, k26⟩ := b2.box; rw [TR.out])
          | (go_at_call 23; refine (C2.out _ e2).mono ?_; rintro e w3 ⟨rfl, x3⟩; have e3 := e2.trans x3; have b3 := b2.ext x3; obtain ⟨k30, k31, k32, k33, k34, k35, k36⟩ := b3.box; rw [TR.out])
          | (go_at_call 24; refine (C3.out _ e3).mono ?_; rintro e w4 ⟨rfl, x4⟩; have e4 := e3.trans x4; have b4 := b3.ext x4; obtain ⟨k40, k41, k42, k43, k44, k45, k46⟩ := b4.box; rw [TT.out])
          | (go_at_call 25; refine (C4.out _ e4).mono ?_; rintro e w' ⟨rfl, rfl⟩; rw [TT.out])
          | (go_at_call 26; refine (C5.out _ e4).mono ?_; rintro e w5 ⟨rfl, x5⟩; have e5 := e4.trans x5; have b5 := b4.ext x5; obtain ⟨k50, k51, k52, k53, k54, k55, k56⟩ := b5.box; rw [MO.out, ME.out])
          | (go_at_call 27; refine (C6.out _ e5).mono ?_; rintro e w6 ⟨v, rfl, hp, x6⟩; have e6 := e5.trans x6; have b6 := b5.ext x6; obtain ⟨k60, k61, k62, k63, k64, k65, k66⟩ := b6.box; obtain rfl := hp.err MO.out; rw [ME.out]))
        go_ret
        exact ⟨rfl, e6⟩
      by_cases tb : (n : Int) < at_
      · have me : matchesErr r t at_ = 3 := by unfold matchesErr; rw [if_neg (by simp [TR.out]), if_neg (by simp [TT.out]), if_pos (Or.inr (by rw [hlen.out]; exact tb))]
        have mo : matchesOk r t at_ = false := by unfold matchesOk; rw [me]; simp
        have ME := Lib.hid me; have MO := Lib.hid mo; clear me mo
        go_enter Try.func3, Try.ntmps3
        go_wp2_with fail
        rw [HW1.out]
        go_wp2_with (first
          | (go_at_call 22; refine (C1.out _ e1).mono ?_; rintro e w2 ⟨rfl, x2⟩; have e2 := e1.trans x2; have b2 := rb.ext x2; obtain ⟨k20, k21, k22, k23, k24, k25, k26⟩ := b2.box; rw [TR.out])
          | (go_at_call 23; refine (C2.out _ e2).mono ?_; rintro e w3 ⟨rfl, x3⟩; have e3 := e2.trans x3; have b3 := b2.ext x3; obtain ⟨k30, k31, k32, k33, k34, k35, k36⟩ := b3.box; rw [TR.out])
          | (go_at_call 24; refine (C3.out _ e3).mono ?_; rintro e w4 ⟨rfl, x4⟩; have e4 := e3.trans x4; have b4 := b3.ext x4; obtain ⟨k40, k41, k42, k43, k44, k45, k46⟩ := b4.box; rw [TT.out])
          | (go_at_call 25; refine (C4.out _ e4).mono ?_; rintro e w' ⟨rfl, rfl⟩; rw [TT.out])
          | (go_at_call 26; refine (C5.out _ e4).mono ?_; rintro e w5 ⟨rfl, x5⟩; have e5 := e4.trans x5; have b5 := b4.ext x5; obtain ⟨k50, k51, k52, k53, k54, k55, k56⟩ := b5.box; rw [MO.out, ME.out])
          | (go_at_call 27; refine (C6.out _ e5).mono ?_; rintro e w6 ⟨v, rfl, hp, x6⟩; have e6 := e5.trans x6; have b6 := b5.ext x6; obtain ⟨k60, k61, k62, k63, k64, k65, k66⟩ := b6.box; obtain rfl := hp.err MO.out; rw [ME.out]))
        go_ret
        exact ⟨rfl, e6⟩
      obtain ⟨a, rfl⟩ := Int.eq_ofNat_of_zero_le (by omega : 0 ≤ at_)
      have ha : a ≤ n := by omega
      have me : matchesErr r t a = 0 := by unfold matchesErr; rw [if_neg (by simp [TR.out]), if_neg (by simp [TT.out]), if_neg (by rw [hlen.out]; omega)]
      have hme : refMatch r t a = matchesOk r t a := by
        unfold matchesOk
        rw [me, ref_here ok.out.s0 (by rw [hlen.out]; exact ha)]; simp
      have HME := Lib.hid hme; clear hme
      have ME := Lib.hid me; clear me
      have hb1 := ok.out.lb; have hb2 := ok.out.ls; have hb3 := ok.out.la; have hb4 := ok.out.lt
      rw [V.out.before.len] at hb1; rw [V.out.source.len] at hb2; rw [V.out.after.len] at hb3; rw [V.out.target.len] at hb4
      have C7 := Lib.hid (fun W (e : Ext w W) => refMatches_any s f A1 n1 c1 A2 n2 c2 A3 n3 c3 A4 n4 c4 q r W A n c t a (H.out.ext e) hlt ha hb1 hb2 hb3 (V.out.ext (e.agree top)))
      cases mo : matchesOk r t a
      · have MO := Lib.hid mo; clear mo
        go_enter Try.func3, Try.ntmps3
        go_wp2_with fail
        rw [HW1.out]
        go_wp2_with (first
          | (go_at_call 22; refine (C1.out _ e1).mono ?_; rintro e w2 ⟨rfl, x2⟩; have e2 := e1.trans x2; have b2 := rb.ext x2; obtain ⟨k20, k21, k22, k23, k24, k25, k26⟩ := b2.box; rw [TR.out])
          | (go_at_call 23; refine (C2.out _ e2).mono ?_; rintro e w3 ⟨rfl, x3⟩; have e3 := e2.trans x3; have b3 := b2.ext x3; obtain ⟨k30, k31, k32, k33, k34, k35, k36⟩ := b3.box; rw [TR.out])
          | (go_at_call 24; refine (C3.out _ e3).mono ?_; rintro e w4 ⟨rfl, x4⟩; have e4 := e3.trans x4; have b4 := b3.ext x4; obtain ⟨k40, k41, k42, k43, k44, k45, k46⟩ := b4.box; rw [TT.out])
          | (go_at_call 25; refine (C4.out _ e4).mono ?_; rintro e w' ⟨rfl, rfl⟩; rw [TT.out])
          | (go_at_call 26; refine (C5.out _ e4).mono ?_; rintro e w5 ⟨rfl, x5⟩; have e5 := e4.trans x5; have b5 := b4.ext x5; obtain ⟨k50, k51, k52, k53, k54, k55, k56⟩ := b5.box; rw [MO.out, ME.out])
          | (go_at_call 27; refine (C6.out _ e5).mono ?_; rintro e w6 ⟨v, rfl, hp, x6⟩; have e6 := e5.trans x6; have b6 := b5.ext x6; obtain ⟨k60, k61, k62, k63, k64, k65, k66⟩ := b6.box; obtain rfl := hp.err MO.out; rw [ME.out])
          | (go_at_call 28; refine (C7.out _ e6).mono ?_; rintro e w7 ⟨rfl, x7⟩; rw [HME.out, MO.out]))
        go_ret
        exact ⟨rfl, e6.trans x7⟩
      · have MO := Lib.hid mo
        have hroom : a + n2 ≤ n := by
          unfold matchesOk at mo
          simp only [Bool.and_eq_true] at mo
          have := here_room mo.2
          rw [V.out.source.len, hlen.out] at this
          exact this
        clear mo
        have C8 : Hid (∀ W, Ext w W → Calls Try.prog 29 #[.agg #[.bool s, .bool f, .slice A1 n1 c1, .slice A2 n2 c2, .slice A3 n3 c3, .slice A4 n4 c4, .int .i64 q], .slice A n c, .int .i64 a] W
            fun e w' => ∃ v, e = .returned v ∧ OwnR rRune 21 1 W.heap.size w' v (putAt r t a) ∧ Ext W w') := fun W e => by
          have := refPut_any s f A1 n1 c1 A2 n2 c2 A3 n3 c3 A4 n4 c4 q r W A n c t a (H.out.ext e) hlt hroom hb4 (V.out.ext (e.agree top))
          unfold putAt
          rw [V.out.source.len]
          exact this
        have hcq := V.out.cursor
        have hc0 := ok.out.c0; have hc1 := ok.out.c1
        rw [V.out.target.len] at hc1
        rw [hcq] at hc0 hc1
        have HCQ := Lib.hid hcq; clear hcq
        by_cases tl : 4000 < (putAt r t a).length
        · have TL := Lib.hid tl; clear tl
          have hl4 : decide (4000 < ((putAt r t a).length : Int)) = true := by have := TL.out; simp; omega
          go_enter Try.func3, Try.ntmps3
          go_wp2_with fail
          rw [HW1.out]
          go_wp2_with (first
            | (go_at_call 22; refine (C1.out _ e1).mono ?_; rintro e w2 ⟨rfl, x2⟩; have e2 := e1.trans x2; have b2 := rb.ext x2; obtain ⟨k20, k21, k22, k23, k24, k25, k26⟩ := b2.box; rw [TR.out])
            | (go_at_call 23; refine (C2.out _ e2).mono ?_; rintro e w3 ⟨rfl, x3⟩; have e3 := e2.trans x3; have b3 := b2.ext x3; obtain ⟨k30, k31, k32, k33, k34, k35, k36⟩ := b3.box; rw [TR.out])
            | (go_at_call 24; refine (C3.out _ e3).mono ?_; rintro e w4 ⟨rfl, x4⟩; have e4 := e3.trans x4; have b4 := b3.ext x4; obtain ⟨k40, k41, k42, k43, k44, k45, k46⟩ := b4.box; rw [TT.out])
            | (go_at_call 25; refine (C4.out _ e4).mono ?_; rintro e w' ⟨rfl, rfl⟩; rw [TT.out])
            | (go_at_call 26; refine (C5.out _ e4).mono ?_; rintro e w5 ⟨rfl, x5⟩; have e5 := e4.trans x5; have b5 := b4.ext x5; obtain ⟨k50, k51, k52, k53, k54, k55, k56⟩ := b5.box; rw [MO.out, ME.out])
            | (go_at_call 27; refine (C6.out _ e5).mono ?_; rintro e w6 ⟨v, rfl, hp, x6⟩; have e6 := e5.trans x6; have b6 := b5.ext x6; obtain ⟨k60, k61, k62, k63, k64, k65, k66⟩ := b6.box; obtain rfl := hp.big MO.out (by simpa using TL.out))
            | (go_at_call 28; refine (C7.out _ e6).mono ?_; rintro e w7 ⟨rfl, x7⟩; rw [HME.out, MO.out]; have e7 := e6.trans x7; have b7 := b6.ext x7; obtain ⟨k70, k71, k72, k73, k74, k75, k76⟩ := b7.box)
            | (go_at_call 29; refine (C8.out _ e7).mono ?_; rintro e w8 ⟨v8, rfl, o8, x8⟩; have e8 := e7.trans x8; have b8 := b7.ext x8; obtain ⟨k80, k81, k82, k83, k84, k85, k86⟩ := b8.box; obtain ⟨AY, cy, rfl, hY⟩ := o8.top))
          go_ret
          exact ⟨rfl, e8⟩
        · have hle : (putAt r t a).length ≤ 4000 := by omega
          have HLE := Lib.hid hle; clear hle tl
          have hl4 : decide (4000 < ((putAt r t a).length : Int)) = false := by have := HLE.out; simp; omega
          go_enter Try.func3, Try.ntmps3
          go_wp2_with fail
          rw [HW1.out]
          go_wp2_with (first
            | (go_at_call 22; refine (C1.out _ e1).mono ?_; rintro e w2 ⟨rfl, x2⟩; have e2 := e1.trans x2; have b2 := rb.ext x2; obtain ⟨k20, k21, k22, k23, k24, k25, k26⟩ := b2.box; rw [TR.out])
            | (go_at_call 23; refine (C2.out _ e2).mono ?_; rintro e w3 ⟨rfl, x3⟩; have e3 := e2.trans x3; have b3 := b2.ext x3; obtain ⟨k30, k31, k32, k33, k34, k35, k36⟩ := b3.box; rw [TR.out])
            | (go_at_call 24; refine (C3.out _ e3).mono ?_; rintro e w4 ⟨rfl, x4⟩; have e4 := e3.trans x4; have b4 := b3.ext x4; obtain ⟨k40, k41, k42, k43, k44, k45, k46⟩ := b4.box; rw [TT.out])
            | (go_at_call 25; refine (C4.out _ e4).mono ?_; rintro e w' ⟨rfl, rfl⟩; rw [TT.out])
            | (go_at_call 26; refine (C5.out _ e4).mono ?_; rintro e w5 ⟨rfl, x5⟩; have e5 := e4.trans x5; have b5 := b4.ext x5; obtain ⟨k50, k51, k52, k53, k54, k55, k56⟩ := b5.box; rw [MO.out, ME.out])
            | (go_at_call 27; refine (C6.out _ e5).mono ?_; rintro e w6 ⟨v, rfl, hp, x6⟩; have e6 := e5.trans x6; have b6 := b5.ext x6; obtain ⟨k60, k61, k62, k63, k64, k65, k66⟩ := b6.box; obtain ⟨x6v, rfl, o6⟩ := hp.fine MO.out (by simpa using HLE.out); simp only [Int.toNat_natCast] at o6; rw [HCQ.out]; obtain ⟨AX, cx, rfl, hX⟩ := o6.top)
            | (go_at_call 28; refine (C7.out _ e6).mono ?_; rintro e w7 ⟨rfl, x7⟩; rw [HME.out, MO.out]; have e7 := e6.trans x7; have b7 := b6.ext x7; obtain ⟨k70, k71, k72, k73, k74, k75, k76⟩ := b7.box)
            | (go_at_call 29; refine (C8.out _ e7).mono ?_; rintro e w8 ⟨v8, rfl, o8, x8⟩; have e8 := e7.trans x8; have b8 := b7.ext x8; obtain ⟨k80, k81, k82, k83, k84, k85, k86⟩ := b8.box; obtain ⟨AY, cy, rfl, hY⟩ := o8.top)
            | (go_at_call 30; refine (Same_any _ _ _ _ _ _ _ _ _ (Runes.ext (Runes.ext hX x7) x8) hY).mono ?_; rintro e w9 ⟨rfl, x9⟩; have e9 := e8.trans x9; have b9 := b8.ext x9; obtain ⟨k90, k91, k92, k93, k94, k95, k96⟩ := b9.box; simp only [decide_true]))
          go_ret
          exact ⟨rfl, e9⟩
    · have me : matchesErr r t at_ = wrongText t := by unfold matchesErr; rw [if_neg (by simp [TR.out]), if_pos tt]
      have mo : matchesOk r t at_ = false := by unfold matchesOk; rw [me]; simp [tt]
      have ME := Lib.hid me; have MO := Lib.hid mo; clear me mo tr
      have hne1 : (wrongText t == 0) = false := by simpa using tt
      have hne2 : (wrongText t != 0) = true := by simpa using tt
      clear tt
      go_enter Try.func3, Try.ntmps3
      go_wp2_with fail
      rw [HW1.out]
      go_wp2_with (first
        | (go_at_call 22; refine (C1.out _ e1).mono ?_; rintro e w2 ⟨rfl, x2⟩; have e2 := e1.trans x2; have b2 := rb.ext x2; obtain ⟨k20, k21, k22, k23, k24, k25, k26⟩ := b2.box; rw [TR.out])
        | (go_at_call 23; refine (C2.out _ e2).mono ?_; rintro e w3 ⟨rfl, x3⟩; have e3 := e2.trans x3; have b3 := b2.ext x3; obtain ⟨k30, k31, k32, k33, k34, k35, k36⟩ := b3.box; rw [TR.out])
        | (go_at_call 24; refine (C3.out _ e3).mono ?_; rintro e w4 ⟨rfl, x4⟩; have e4 := e3.trans x4; have b4 := b3.ext x4; obtain ⟨k40, k41, k42, k43, k44, k45, k46⟩ := b4.box)
        | (go_at_call 25; refine (C4.out _ e4).mono ?_; rintro e w' ⟨rfl, rfl⟩)
        | (go_at_call 26; refine (C5.out _ e4).mono ?_; rintro e w5 ⟨rfl, x5⟩; have e5 := e4.trans x5; have b5 := b4.ext x5; obtain ⟨k50, k51, k52, k53, k54, k55, k56⟩ := b5.box; rw [MO.out, ME.out])
        | (go_at_call 27; refine (C6.out _ e5).mono ?_; rintro e w6 ⟨v, rfl, hp, x6⟩; have e6 := e5.trans x6; have b6 := b5.ext x6; obtain ⟨k60, k61, k62, k63, k64, k65, k66⟩ := b6.box; obtain rfl := hp.err MO.out; rw [ME.out]))
      go_ret
      exact ⟨rfl, e6⟩
  · have me : matchesErr r t at_ = wrongRule r := by unfold matchesErr; rw [if_pos tr]
    have mo : matchesOk r t at_ = false := by unfold matchesOk; rw [me]; simp [tr]
    have ME := Lib.hid me; have MO := Lib.hid mo; clear me mo
    have hne1 : (wrongRule r == 0) = false := by simpa using tr
    have hne2 : (wrongRule r != 0) = true := by simpa using tr
    clear tr
    go_enter Try.func3, Try.ntmps3
    go_wp2_with fail
    rw [HW1.out]
    go_wp2_with (first
      | (go_at_call 22; refine (C1.out _ e1).mono ?_; rintro e w2 ⟨rfl, x2⟩; have e2 := e1.trans x2; have b2 := rb.ext x2; obtain ⟨k20, k21, k22, k23, k24, k25, k26⟩ := b2.box)
      | (go_at_call 23; refine (C2.out _ e2).mono ?_; rintro e w3 ⟨rfl, x3⟩; have e3 := e2.trans x3; have b3 := b2.ext x3; obtain ⟨k30, k31, k32, k33, k34, k35, k36⟩ := b3.box)
      | (go_at_call 24; refine (C3.out _ e3).mono ?_; rintro e w4 ⟨rfl, x4⟩; have e4 := e3.trans x4; have b4 := b3.ext x4; obtain ⟨k40, k41, k42, k43, k44, k45, k46⟩ := b4.box)
      | (go_at_call 25; refine (C4.out _ e4).mono ?_; rintro e w' ⟨rfl, rfl⟩)
      | (go_at_call 26; refine (C5.out _ e4).mono ?_; rintro e w5 ⟨rfl, x5⟩; have e5 := e4.trans x5; have b5 := b4.ext x5; obtain ⟨k50, k51, k52, k53, k54, k55, k56⟩ := b5.box; rw [MO.out, ME.out])
      | (go_at_call 27; refine (C6.out _ e5).mono ?_; rintro e w6 ⟨v, rfl, hp, x6⟩; have e6 := e5.trans x6; have b6 := b5.ext x6; obtain ⟨k60, k61, k62, k63, k64, k65, k66⟩ := b6.box; obtain rfl := hp.err MO.out; rw [ME.out]))
    go_ret
    exact ⟨rfl, e6⟩
end

end Go.Proofs.Ytfdkbhbnldcbmaa
