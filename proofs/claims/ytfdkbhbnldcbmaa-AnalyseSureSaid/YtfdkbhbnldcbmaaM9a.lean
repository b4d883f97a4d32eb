/- Walk of the law AnalyseSure. -/
import Derived.Test.YtfdkbhbnldcbmaaW16b
import Derived.Test.YtfdkbhbnldcbmaaW22
namespace Go.Proofs.Ytfdkbhbnldcbmaa
open Go.RowKit
set_option linter.unusedVariables false
set_option linter.unusedSimpArgs false

set_option maxRecDepth 100000 in
set_option maxHeartbeats 2000000 in
theorem AnalyseSure_any (A : Option Addr) (n c : Nat) (l : List Rule) (X : Option Addr) (m d : Nat) (t : List Int) (w : World) (h : Rules w A n c l) (ht : Runes w X m d t) :
    Calls Try.prog 7 #[.slice A n c, .slice X m d] w fun e w' => e = .returned (.bool true) ∧ Ext w w' := by
  have C1 := Lib.hid (alive9_any w)
  have C2 := Lib.hid (fun W (e : Ext w W) => Sure_any A n c l W (h.ext e))
  have C3 := Lib.hid (fun W (e : Ext w W) => Run_any A n c l X m d t W (h.ext e) (ht.ext e))
  have hlen := Lib.hid ht.len
  cases hs : sureR l
  · have HS := Lib.hid hs; clear hs
    go_enter Try.func7, Try.ntmps7
    go_wp2_with (first
      | (go_at_call 38; refine C1.out.mono ?_; rintro e w1 ⟨rfl, x1⟩)
      | (go_at_call 41; refine (C2.out _ x1).mono ?_; rintro e w2 ⟨rfl, x2⟩; rw [HS.out]))
    go_ret
    exact ⟨rfl, x1.trans x2⟩
  · have HR := Lib.hid (sure_run (t := t) hs)
    have HS := Lib.hid hs; clear hs
    unfold RunR at C3
    generalize (runAll l t).steps = st at *
    generalize (runAll l t).put = pt at *
    generalize (runAll l t).text = tx at *
    generalize (runF l t).1 = r1 at *
    generalize (runF l t).2 = r2 at *
    rcases HR.out with ⟨h1, h2⟩ | ⟨h1, h2⟩
    · have b1 : (r1 != 0) = true := by simpa using h1
      have b2 : (r1 != 9) = true := by simpa using h2
      clear h1 h2
      go_enter Try.func7, Try.ntmps7
      go_wp2_with (first
        | (go_at_call 38; refine C1.out.mono ?_; rintro e w1 ⟨rfl, x1⟩)
        | (go_at_call 41; refine (C2.out _ x1).mono ?_; rintro e w2 ⟨rfl, x2⟩; rw [HS.out]; have e2 := x1.trans x2)
        | (go_at_call 36; refine (C3.out _ e2).mono ?_; rintro e w3 ⟨⟨A1, n1, c1, rfl, hA⟩, x3⟩; have e3 := ((e2.trans x3).alloc (.cells #[.slice A1 n1 c1, .int .i64 st, .int .i64 pt] 45)).alloc (.cells #[.int .i64 r1, .int .i64 r2] 38)))
      go_ret
      exact ⟨rfl, e3⟩
    · subst h1
      rw [hlen.out] at h2
      have b3 : decide ((st : Int) ≤ (m : Int)) = true := by simp; omega
      go_enter Try.func7, Try.ntmps7
      go_wp2_with (first
        | (go_at_call 38; refine C1.out.mono ?_; rintro e w1 ⟨rfl, x1⟩)
        | (go_at_call 41; refine (C2.out _ x1).mono ?_; rintro e w2 ⟨rfl, x2⟩; rw [HS.out]; have e2 := x1.trans x2)
        | (go_at_call 36; refine (C3.out _ e2).mono ?_; rintro e w3 ⟨⟨A1, n1, c1, rfl, hA⟩, x3⟩; have e3 := ((e2.trans x3).alloc (.cells #[.slice A1 n1 c1, .int .i64 st, .int .i64 pt] 45)).alloc (.cells #[.int .i64 0, .int .i64 r2] 38)))
      go_ret
      exact ⟨rfl, e3⟩

end Go.Proofs.Ytfdkbhbnldcbmaa
