/- Walk of the law GapPlays. -/
import Derived.Test.YtpnflnocmekpnaaG9
import Derived.Test.YtpnflnocmekpnaaG10
import Derived.Test.YtpnflnocmekpnaaG12
namespace Go.Proofs.Ytpnflnocmekpnaa
open Go.ChangeShapes Go.WideShapes Go.ChangeAt Go.RowKit Go.Deep
set_option linter.unusedVariables false
set_option linter.unusedSimpArgs false

set_option maxRecDepth 100000 in
set_option maxHeartbeats 4000000 in
theorem GapPlays_any {w : World} {X : Option Addr} {n0 c0 : Nat} {t0 : List Int} {A : Option Addr} {m c : Nat} {l : List Ed} (s0 : Runes w X n0 c0 t0) (h : Edits w A m c l) :
    Calls Try.prog 3 #[.slice X n0 c0, .slice A m c] w fun e w' => e = .returned (.bool true) ∧ Ext w w' := by
  have C1 := Lib.hid (fun W (e : Ext w W) => Play_any (w := W) (s0.ext e) (SlR.ext (keep_edit _) h e))
  have C2 := Lib.hid (fun W (e : Ext w W) => refPlay_any (w := W) (s0.ext e) (SlR.ext (keep_edit _) h e))
  unfold GapV at C1 C2
  generalize (gapPlay t0 l).text = tx at C1 C2
  generalize (gapPlay t0 l).at_ = ta at C1 C2
  generalize (gapPlay t0 l).err = r1 at C1 C2
  generalize (gapPlay t0 l).place = r2 at C1 C2
  clear h s0
  go_enter Try.func3, Try.ntmps3
  go_wp2_with (first
    | (go_at_call 5; refine (C1.out _ (Ext.refl w)).mono ?_; rintro e w1 ⟨⟨A1, c1, rfl, sA⟩, x1⟩; have y1 := x1.alloc (.cells #[.int .i64 r1, .int .i64 r2] 26); have sA1 := Runes.ext sA ((Ext.refl w1).alloc (.cells #[.int .i64 r1, .int .i64 r2] 26)); have K0 := Lib.hid (cell_new w1 #[.int .i64 r1, .int .i64 r2] 26 0 (.int .i64 r1) rfl); have K1 := Lib.hid (cell_new w1 #[.int .i64 r1, .int .i64 r2] 26 1 (.int .i64 r2) rfl); have lt1 : w1.heap.size < (w1.alloc (.cells #[.int .i64 r1, .int .i64 r2] 26)).heap.size := by simp)
    | (go_at_call 6; refine (C2.out _ y1).mono ?_; rintro e w2 ⟨⟨A2, c2, rfl, sB⟩, x2⟩; have y2 := (y1.trans x2).alloc (.cells #[.int .i64 r1, .int .i64 r2] 26); have sA2 := Runes.ext sA1 (x2.alloc (.cells #[.int .i64 r1, .int .i64 r2] 26)); have sB2 := Runes.ext sB ((Ext.refl w2).alloc (.cells #[.int .i64 r1, .int .i64 r2] 26)); have k0 := x2.cell K0.out; have k1 := x2.cell K1.out; have lt2 : w1.heap.size < w2.heap.size := Nat.lt_of_lt_of_le lt1 x2.size; have ne2 := Nat.ne_of_lt lt2; have ne2s := ne2.symm)
    | (go_at_call 7; refine (Same_any _ _ _ _ _ _ _ _ _ sA2 sB2).mono ?_; rintro e w9 ⟨rfl, x9⟩; simp only [decide_true]))
  go_ret
  exact ⟨rfl, y2.trans x9⟩

end Go.Proofs.Ytpnflnocmekpnaa
