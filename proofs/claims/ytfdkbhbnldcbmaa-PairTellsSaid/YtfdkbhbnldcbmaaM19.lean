/- Walk of the law PairTells. -/
import Derived.Test.YtfdkbhbnldcbmaaW76
namespace Go.Proofs.Ytfdkbhbnldcbmaa
open Go.RowKit
set_option linter.unusedVariables false
set_option linter.unusedSimpArgs false

section
variable (A : Option Addr) (n c : Nat) (f : List Rule) (A' : Option Addr) (n' c' : Nat) (b : List Rule) (B : Option Addr) (m d : Nat) (ds : List Sp) (w : World) (hf : Rules w A n c f) (hb : Rules w A' n' c' b) (hd : Spans w B m d ds)
set_option maxRecDepth 100000 in
include hf hb hd in
theorem PairTells_any : Calls Try.prog 11 #[.slice A n c, .slice A' n' c', .slice B m d] w fun e w' => e = .returned (.bool true) ∧ Ext w w' := by
  have C1 := Lib.hid (pairSure_any A n c f A' n' c' b B m d ds w hf hb hd)
  have C2 := Lib.hid (fun W (e : Ext w W) => refSureAll_any A n c f A' n' c' b B m d ds W (hf.ext e) (hb.ext e) (hd.ext e))
  unfold SureR at C1 C2
  generalize pairV f b ds = v at *
  generalize pairE f b ds = x at *
  clear hf hb hd
  go_enter Try.func11, Try.ntmps11
  go_wp2_with (first
    | (go_at_call 48; refine C1.out.mono ?_; rintro e w1 ⟨rfl, x1⟩)
    | (go_at_call 49; refine (C2.out _ x1).mono ?_; rintro e w2 ⟨rfl, x2⟩))
  go_ret
  exact ⟨by simp, x1.trans x2⟩
end

end Go.Proofs.Ytfdkbhbnldcbmaa
