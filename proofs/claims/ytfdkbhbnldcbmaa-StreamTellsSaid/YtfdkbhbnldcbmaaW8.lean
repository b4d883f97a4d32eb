/- Walks: putting a target in its source's place. -/
import Derived.Test.YtfdkbhbnldcbmaaW6
import Derived.Test.YtfdkbhbnldcbmaaLibR
namespace Go.Proofs.Ytfdkbhbnldcbmaa
open Go.RowKit
set_option linter.unusedVariables false
set_option linter.unusedSimpArgs false

section
variable (s f : Bool) (A1 : Option Addr) (n1 c1 : Nat) (A2 : Option Addr) (n2 c2 : Nat) (A3 : Option Addr) (n3 c3 : Nat) (A4 : Option Addr) (n4 c4 : Nat) (q : Int) (r : Rule) (w : World)

set_option maxRecDepth 100000 in
set_option maxHeartbeats 1000000 in
theorem refPut_any (A : Option Addr) (n c : Nat) (t : List Int) (a : Nat) (h : Runes w A n c t) (hn : n ≤ 4000) (ha : a + n2 ≤ n) (hn4 : n4 ≤ 20)
    (hv : RuleV w s f A1 n1 c1 A2 n2 c2 A3 n3 c3 A4 n4 c4 q r) :
    Calls Try.prog 29 #[.agg #[.bool s, .bool f, .slice A1 n1 c1, .slice A2 n2 c2, .slice A3 n3 c3, .slice A4 n4 c4, .int .i64 q], .slice A n c, .int .i64 a] w
      fun e w' => ∃ v, e = .returned v ∧ OwnR rRune 21 1 w.heap.size w' v (t.take a ++ r.target ++ t.drop (a + n2)) ∧ Ext w w' := by
  have hcap := h.cap
  have hmax := h.max
  have hs1 := fun W => run_cut_h T_rune A n c (a : Int) a rfl (by omega) W
  have hs2 := fun W => run_cut_l T_rune A n c ((a : Int) + (n2 : Int)) (a + n2) (by omega) (by omega) W
  have e1 := (Ext.refl w).alloc (.cells #[.bool s, .bool f, .slice A1 n1 c1, .slice A2 n2 c2, .slice A3 n3 c3, .slice A4 n4 c4, .int .i64 q] 25)
  have e2 := e1.alloc (.cells #[] 21)
  have o1 : OwnR rRune 21 1 w.heap.size ((w.alloc (.cells #[.bool s, .bool f, .slice A1 n1 c1, .slice A2 n2 c2, .slice A3 n3 c3, .slice A4 n4 c4, .int .i64 q] 25)).alloc (.cells #[] 21)) (.slice (some ⟨w.heap.size + 1, 0, none⟩) 0 0) [] := by
    have := OwnR.empty rRune 21 1 w.heap.size (w.alloc (.cells #[.bool s, .bool f, .slice A1 n1 c1, .slice A2 n2 c2, .slice A3 n3 c3, .slice A4 n4 c4, .int .i64 q] 25)) (by simp)
    simpa only [World.size_alloc] using this
  have r2 : RuleAt ((w.alloc (.cells #[.bool s, .bool f, .slice A1 n1 c1, .slice A2 n2 c2, .slice A3 n3 c3, .slice A4 n4 c4, .int .i64 q] 25)).alloc (.cells #[] 21)) w.heap.size 0 s f A1 n1 c1 A2 n2 c2 A3 n3 c3 A4 n4 c4 q := (RuleAt.new w _).ext ((Ext.refl _).alloc _)
  have htl := Lib.hid hv.target.len
  have hlen := Lib.hid h.len
  go_enter Try.func29, Try.ntmps29
  go_wp2_with (first
    | (at_builtin
       refine wpList_appS T_rune (by omega) rfl (.tmp 8) (.tmp 11) rfl rfl o1 rfl ((h.ext e2).take (hi := a) (by omega)) (fun _ _ h => h) one_rune (keep_rune bot) (bot_no _) ?_ e2.size ?_
       · simp; omega
       intro v1 w1 o2 g1 hat1
       have e3 := e2.app g1 o1
       have n0 : (Value.slice (some ⟨w.heap.size + 1, 0, none⟩) 0 0).ownBlock ≠ some w.heap.size := by simp [Value.ownBlock]
       have k5 := far_cell g1 r2.h5 n0
       have k3 := far_cell g1 r2.h3 n0)
    | (at_builtin
       refine wpList_appS T_rune (by omega) rfl (.tmp 13) (.tmp 15) rfl rfl o2 rfl (hv.target.ext e3) (fun _ _ h => h) one_rune (keep_rune bot) (bot_no _) ?_ e3.size ?_
       · simp; omega
       intro v2 w2 o3 g2 hat2
       have e4 := e3.app g2 o2
       have n1' : v1.ownBlock ≠ some w.heap.size := own_ne hat1 n0 (by simp; omega)
       have k3' := far_cell g2 k3 n1')
    | (at_builtin
       refine wpList_appS T_rune (by omega) rfl (.tmp 17) (.tmp 24) rfl rfl o3 rfl ((h.ext e4).drop (lo := a + n2) (by omega)) (fun _ _ h => h) one_rune (keep_rune bot) (bot_no _) ?_ e4.size ?_
       · simp [htl.out]; omega
       intro v3 w3 o4 g3 hat3))
  go_ret
  exact ⟨v3, rfl, by simpa using o4, e4.app g3 o3⟩
end

end Go.Proofs.Ytfdkbhbnldcbmaa
