/- Walk: Matches. -/
import Derived.Test.YtfdkbhbnldcbmaaRule
import Derived.Test.YtfdkbhbnldcbmaaW5
namespace Go.Proofs.Ytfdkbhbnldcbmaa
open Go.RowKit
set_option linter.unusedVariables false
set_option linter.unusedSimpArgs false

section
variable (s f : Bool) (A1 : Option Addr) (n1 c1 : Nat) (A2 : Option Addr) (n2 c2 : Nat) (A3 : Option Addr) (n3 c3 : Nat) (A4 : Option Addr) (n4 c4 : Nat) (q : Int) (r : Rule) (w : World)

set_option maxRecDepth 100000 in
set_option maxHeartbeats 1000000 in
theorem Matches_any (A : Option Addr) (n c : Nat) (t : List Int) (at_ : Int) (h : Runes w A n c t) (hv : RuleV w s f A1 n1 c1 A2 n2 c2 A3 n3 c3 A4 n4 c4 q r) :
    Calls Try.prog 26 #[.agg #[.bool s, .bool f, .slice A1 n1 c1, .slice A2 n2 c2, .slice A3 n3 c3, .slice A4 n4 c4, .int .i64 q], .slice A n c, .int .i64 at_] w
      fun e w' => e = .returned (.tuple #[.bool (matchesOk r t at_), .int .i64 (matchesErr r t at_)]) ∧ Ext w w' := by
  have e1 := (Ext.refl w).alloc (.cells #[.bool s, .bool f, .slice A1 n1 c1, .slice A2 n2 c2, .slice A3 n3 c3, .slice A4 n4 c4, .int .i64 q] 25)
  have r1 := RuleAt.new (s := s) (f := f) (A1 := A1) (n1 := n1) (c1 := c1) (A2 := A2) (n2 := n2) (c2 := c2) (A3 := A3) (n3 := n3) (c3 := c3) (A4 := A4) (n4 := n4) (c4 := c4) (q := q) w 25
  have HW := Lib.hid (Wrong_any s f A1 n1 c1 A2 n2 c2 A3 n3 c3 A4 n4 c4 q r _ (hv.ext (e1.agree top)))
  have hlen := Lib.hid h.len
  by_cases t1 : wrongRule r = 0
  · have ok := Lib.hid (ok_of t1)
    have T1 := Lib.hid t1; clear t1
    by_cases t2 : wrongText t = 0
    · have tx := text_of t2
      have T2 := Lib.hid t2; clear t2
      by_cases t3 : at_ < 0
      · have HE : Hid (matchesErr r t at_ = 3) := by show _ = _; unfold matchesErr; rw [if_neg (by simp [T1.out]), if_neg (by simp [T2.out]), if_pos (Or.inl t3)]
        go_enter Try.func26, Try.ntmps26
        go_wp2_with (first
          | (go_at_call 23; refine HW.out.mono ?_; rintro e w1 ⟨rfl, ex1⟩; rw [T1.out])
          | (go_at_call 24; refine (Text_any A n c t _ (h.ext (e1.trans ex1))).mono ?_; rintro e w2 ⟨rfl, ex2⟩; rw [T2.out]))
        go_ret2
        unfold matchesOk
        rw [HE.out]
        exact ⟨rfl, (e1.trans ex1).trans ex2⟩
      · by_cases t4 : (n : Int) < at_
        · have HE : Hid (matchesErr r t at_ = 3) := by show _ = _; unfold matchesErr; rw [if_neg (by simp [T1.out]), if_neg (by simp [T2.out]), if_pos (Or.inr (by rw [hlen.out]; exact t4))]
          go_enter Try.func26, Try.ntmps26
          go_wp2_with (first
            | (go_at_call 23; refine HW.out.mono ?_; rintro e w1 ⟨rfl, ex1⟩; rw [T1.out])
            | (go_at_call 24; refine (Text_any A n c t _ (h.ext (e1.trans ex1))).mono ?_; rintro e w2 ⟨rfl, ex2⟩; rw [T2.out]))
          go_ret2
          unfold matchesOk
          rw [HE.out]
          exact ⟨rfl, (e1.trans ex1).trans ex2⟩
        · obtain ⟨a, rfl⟩ := Int.eq_ofNat_of_zero_le (by omega : 0 ≤ at_)
          have HE : Hid (matchesErr r t a = 0) := by show _ = _; unfold matchesErr; rw [if_neg (by simp [T1.out]), if_neg (by simp [T2.out]), if_neg (by rw [hlen.out]; omega)]
          have hn : n ≤ 4000 := by rw [← hlen.out]; exact tx.1
          clear tx
          go_enter Try.func26, Try.ntmps26
          go_wp2_with (first
            | (go_at_call 23; refine HW.out.mono ?_; rintro e w1 ⟨rfl, ex1⟩; rw [T1.out])
            | (go_at_call 24; refine (Text_any A n c t _ (h.ext (e1.trans ex1))).mono ?_; rintro e w2 ⟨rfl, ex2⟩; rw [T2.out])
            | (go_at_call 88; refine (Here_any s f A1 n1 c1 A2 n2 c2 A3 n3 c3 A4 n4 c4 q r _ A n c t w.heap.size 0 a (h.ext ((e1.trans ex1).trans ex2)) hn (by omega) (hv.ext (((e1.trans ex1).trans ex2).agree top)) (r1.ext (ex1.trans ex2)) ok.out).mono ?_; rintro e w3 ⟨rfl, ex3⟩))
          go_ret2
          unfold matchesOk
          rw [HE.out]
          exact ⟨by simp, ((e1.trans ex1).trans ex2).trans ex3⟩
    · have HE : Hid (matchesErr r t at_ = wrongText t) := by show _ = _; unfold matchesErr; rw [if_neg (by simp [T1.out]), if_pos t2]
      have t2' : (wrongText t != 0) = true := by simpa using t2
      go_enter Try.func26, Try.ntmps26
      go_wp2_with (first
        | (go_at_call 23; refine HW.out.mono ?_; rintro e w1 ⟨rfl, ex1⟩; rw [T1.out])
        | (go_at_call 24; refine (Text_any A n c t _ (h.ext (e1.trans ex1))).mono ?_; rintro e w2 ⟨rfl, ex2⟩))
      go_ret2
      unfold matchesOk
      rw [HE.out]
      exact ⟨by simp [t2], (e1.trans ex1).trans ex2⟩
  · have HE : Hid (matchesErr r t at_ = wrongRule r) := by show _ = _; unfold matchesErr; rw [if_pos t1]
    have t1' : (wrongRule r != 0) = true := by simpa using t1
    go_enter Try.func26, Try.ntmps26
    go_wp2_with (go_at_call 23; refine HW.out.mono ?_; rintro e w1 ⟨rfl, ex1⟩)
    go_ret2
    unfold matchesOk
    rw [HE.out]
    exact ⟨by simp [t1], e1.trans ex1⟩
end

end Go.Proofs.Ytfdkbhbnldcbmaa
