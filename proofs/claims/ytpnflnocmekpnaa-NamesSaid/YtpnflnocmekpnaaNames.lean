/- Walk of the closed sentence Names. -/
import Derived.Test.YtpnflnocmekpnaaOwn
import Derived.Test.YtpnflnocmekpnaaProg
import Derived.RegionTactic
namespace Go.Proofs.Ytpnflnocmekpnaa
open Go.RowKit
set_option linter.unusedVariables false
set_option linter.unusedSimpArgs false

theorem ints_new (w : World) (L : List Int) (t : TypeId) (h : ∀ x ∈ L, i64 x) (hl : L.length ≤ 60000) : Ints (w.alloc (.cells (L.map (Value.int .i64)).toArray t)) (some ⟨w.heap.size, 0, none⟩) L.length L.length L :=
  SlR.fresh rfl (by unfold maxLen; omega) fun k y hy => by
    refine ⟨[.int .i64 y], rfl, ⟨rfl, h y (List.mem_of_getElem? hy)⟩, fun j u hu => ?_⟩
    match j, hu with
    | 0, hu => simp at hu; subst hu; simp [hy]

def namesL : List Int := [1114111, 65533, 1, 2, 3, 4, 1, 2, 3, 1, 2, 3, 4, 1, 2, 3, 200, 20, 20, 200, 60, 40, 1, 2, 3, 500, 100, 5, 200, 20, 4000, 400]
theorem namesL_len : namesL.length = 32 := rfl
theorem namesL_ok : ∀ x ∈ namesL, i64 x := by unfold i64; decide
def errsL : List Int := [0, 1, 2, 3, 4, 5, 6, 7, 8, 9]
theorem errsL_ok : ∀ x ∈ errsL, i64 x := by unfold i64; decide
theorem errsL_get : ∀ k : Nat, k < 10 → errsL[k]? = some (k : Int) := by decide

set_option maxRecDepth 100000 in
set_option maxHeartbeats 4000000 in
theorem Names_any (w : World) : Calls Try.prog 4 #[] w fun e w' => e = .returned (.bool true) ∧ Ext w w' := by
  have s1 : Ints (w.alloc (.cells #[.int .i64 0, .int .i64 1, .int .i64 2, .int .i64 3, .int .i64 4, .int .i64 5, .int .i64 6, .int .i64 7, .int .i64 8, .int .i64 9] 24)) (some ⟨w.heap.size, 0, none⟩) 10 10 errsL := ints_new w errsL _ errsL_ok (by decide)
  have e1 := (Ext.refl w).alloc (.cells #[.int .i64 0, .int .i64 1, .int .i64 2, .int .i64 3, .int .i64 4, .int .i64 5, .int .i64 6, .int .i64 7, .int .i64 8, .int .i64 9] 24)
  go_enter Try.func4, Try.ntmps4
  go_wp2
  generalize w.alloc (.cells #[.int .i64 0, .int .i64 1, .int .i64 2, .int .i64 3, .int .i64 4, .int .i64 5, .int .i64 6, .int .i64 7, .int .i64 8, .int .i64 9] 24) = w1 at *
  have S1 := Lib.hid s1; clear s1
  go_loop [10] (fun i => ∃ k : Nat, k ≤ 10 ∧ i = .int .i64 k) (fun i => 10 - (intOf i).toNat)
  case atStart => exact ⟨0, by omega, rfl⟩
  case round =>
    obtain ⟨k, hk, rfl⟩ := hrel
    by_cases hlt : k < 10
    · obtain ⟨b, off, e, _, hc, _⟩ := S1.out.int (errsL_get k hlt)
      simp only [Option.some.injEq, Addr.mk.injEq, and_true] at e
      obtain ⟨rfl, rfl⟩ := e
      simp only [Nat.zero_add] at hc
      go_wp2
      go_round
      case rel => exact ⟨k + 1, by omega, by go_num⟩
      case measure => simp [intOf]; omega
    · have t1 : decide ((k : Int) < 10) = false := by simp; omega
      clear S1
      have s2 : Ints (w1.alloc (.cells #[.int .i64 1114111, .int .i64 65533, .int .i64 1, .int .i64 2, .int .i64 3, .int .i64 4, .int .i64 1, .int .i64 2, .int .i64 3, .int .i64 1, .int .i64 2, .int .i64 3, .int .i64 4, .int .i64 1, .int .i64 2, .int .i64 3, .int .i64 200, .int .i64 20, .int .i64 20, .int .i64 200, .int .i64 60, .int .i64 40, .int .i64 1, .int .i64 2, .int .i64 3, .int .i64 500, .int .i64 100, .int .i64 5, .int .i64 200, .int .i64 20, .int .i64 4000, .int .i64 400] 3)) (some ⟨w1.heap.size, 0, none⟩) 32 32 namesL := ints_new w1 namesL _ namesL_ok (by decide)
      have s3 : Ints ((w1.alloc (.cells #[.int .i64 1114111, .int .i64 65533, .int .i64 1, .int .i64 2, .int .i64 3, .int .i64 4, .int .i64 1, .int .i64 2, .int .i64 3, .int .i64 1, .int .i64 2, .int .i64 3, .int .i64 4, .int .i64 1, .int .i64 2, .int .i64 3, .int .i64 200, .int .i64 20, .int .i64 20, .int .i64 200, .int .i64 60, .int .i64 40, .int .i64 1, .int .i64 2, .int .i64 3, .int .i64 500, .int .i64 100, .int .i64 5, .int .i64 200, .int .i64 20, .int .i64 4000, .int .i64 400] 3)).alloc (.cells #[.int .i64 1114111, .int .i64 65533, .int .i64 1, .int .i64 2, .int .i64 3, .int .i64 4, .int .i64 1, .int .i64 2, .int .i64 3, .int .i64 1, .int .i64 2, .int .i64 3, .int .i64 4, .int .i64 1, .int .i64 2, .int .i64 3, .int .i64 200, .int .i64 20, .int .i64 20, .int .i64 200, .int .i64 60, .int .i64 40, .int .i64 1, .int .i64 2, .int .i64 3, .int .i64 500, .int .i64 100, .int .i64 5, .int .i64 200, .int .i64 20, .int .i64 4000, .int .i64 400] 3)) (some ⟨w1.heap.size + 1, 0, none⟩) 32 32 namesL := by
        have := ints_new (w1.alloc (.cells #[.int .i64 1114111, .int .i64 65533, .int .i64 1, .int .i64 2, .int .i64 3, .int .i64 4, .int .i64 1, .int .i64 2, .int .i64 3, .int .i64 1, .int .i64 2, .int .i64 3, .int .i64 4, .int .i64 1, .int .i64 2, .int .i64 3, .int .i64 200, .int .i64 20, .int .i64 20, .int .i64 200, .int .i64 60, .int .i64 40, .int .i64 1, .int .i64 2, .int .i64 3, .int .i64 500, .int .i64 100, .int .i64 5, .int .i64 200, .int .i64 20, .int .i64 4000, .int .i64 400] 3)) namesL 3 namesL_ok (by decide)
        rw [World.size_alloc] at this
        exact this
      have s2' := SlR.ext (keep_int _) s2 ((Ext.refl _).alloc (.cells #[.int .i64 1114111, .int .i64 65533, .int .i64 1, .int .i64 2, .int .i64 3, .int .i64 4, .int .i64 1, .int .i64 2, .int .i64 3, .int .i64 1, .int .i64 2, .int .i64 3, .int .i64 4, .int .i64 1, .int .i64 2, .int .i64 3, .int .i64 200, .int .i64 20, .int .i64 20, .int .i64 200, .int .i64 60, .int .i64 40, .int .i64 1, .int .i64 2, .int .i64 3, .int .i64 500, .int .i64 100, .int .i64 5, .int .i64 200, .int .i64 20, .int .i64 4000, .int .i64 400] 3))
      have e2 := (e1.alloc (.cells #[.int .i64 1114111, .int .i64 65533, .int .i64 1, .int .i64 2, .int .i64 3, .int .i64 4, .int .i64 1, .int .i64 2, .int .i64 3, .int .i64 1, .int .i64 2, .int .i64 3, .int .i64 4, .int .i64 1, .int .i64 2, .int .i64 3, .int .i64 200, .int .i64 20, .int .i64 20, .int .i64 200, .int .i64 60, .int .i64 40, .int .i64 1, .int .i64 2, .int .i64 3, .int .i64 500, .int .i64 100, .int .i64 5, .int .i64 200, .int .i64 20, .int .i64 4000, .int .i64 400] 3)).alloc (.cells #[.int .i64 1114111, .int .i64 65533, .int .i64 1, .int .i64 2, .int .i64 3, .int .i64 4, .int .i64 1, .int .i64 2, .int .i64 3, .int .i64 1, .int .i64 2, .int .i64 3, .int .i64 4, .int .i64 1, .int .i64 2, .int .i64 3, .int .i64 200, .int .i64 20, .int .i64 20, .int .i64 200, .int .i64 60, .int .i64 40, .int .i64 1, .int .i64 2, .int .i64 3, .int .i64 500, .int .i64 100, .int .i64 5, .int .i64 200, .int .i64 20, .int .i64 4000, .int .i64 400] 3)
      clear s2
      have S2 := Lib.hid s2'; have S3 := Lib.hid s3
      clear s2' s3
      go_wp2
      generalize (w1.alloc (.cells #[.int .i64 1114111, .int .i64 65533, .int .i64 1, .int .i64 2, .int .i64 3, .int .i64 4, .int .i64 1, .int .i64 2, .int .i64 3, .int .i64 1, .int .i64 2, .int .i64 3, .int .i64 4, .int .i64 1, .int .i64 2, .int .i64 3, .int .i64 200, .int .i64 20, .int .i64 20, .int .i64 200, .int .i64 60, .int .i64 40, .int .i64 1, .int .i64 2, .int .i64 3, .int .i64 500, .int .i64 100, .int .i64 5, .int .i64 200, .int .i64 20, .int .i64 4000, .int .i64 400] 3)).alloc (.cells #[.int .i64 1114111, .int .i64 65533, .int .i64 1, .int .i64 2, .int .i64 3, .int .i64 4, .int .i64 1, .int .i64 2, .int .i64 3, .int .i64 1, .int .i64 2, .int .i64 3, .int .i64 4, .int .i64 1, .int .i64 2, .int .i64 3, .int .i64 200, .int .i64 20, .int .i64 20, .int .i64 200, .int .i64 60, .int .i64 40, .int .i64 1, .int .i64 2, .int .i64 3, .int .i64 500, .int .i64 100, .int .i64 5, .int .i64 200, .int .i64 20, .int .i64 4000, .int .i64 400] 3) = w2 at *
      clear t1 hlt
      go_loopw [23] (fun i wr => (∃ k : Nat, k ≤ 32 ∧ i = .int .i64 k) ∧ Ext w2 wr) (fun i _ => 32 - (intOf i).toNat)
      case atStart => exact ⟨⟨0, by omega, rfl⟩, Ext.refl _⟩
      case round =>
        obtain ⟨⟨k, hk, rfl⟩, hx⟩ := hrel
        by_cases hlt : k < 32
        · obtain ⟨x, hxx⟩ := S2.out.idx hlt
          obtain ⟨b, off, e, _, hc, _⟩ := (SlR.ext (keep_int _) S2.out hx).int hxx
          simp only [Option.some.injEq, Addr.mk.injEq, and_true] at e
          obtain ⟨rfl, rfl⟩ := e
          obtain ⟨b, off, e, _, hc', _⟩ := (SlR.ext (keep_int _) S3.out hx).int hxx
          simp only [Option.some.injEq, Addr.mk.injEq, and_true] at e
          obtain ⟨rfl, rfl⟩ := e
          simp only [Nat.zero_add] at hc hc'
          have hk' : (k : Int) < 32 := by omega
          clear hxx
          go_wp2
          go_quiet (fail)
          go_wp2
          go_roundw
          case rel => exact ⟨⟨k + 1, by omega, by go_num⟩, hx.drewN _⟩
          case measure => simp [intOf]; omega
        · have t1 : decide ((k : Int) < 32) = false := by simp; omega
          go_wp2
          go_ret
          exact ⟨rfl, e2.trans hx⟩

end Go.Proofs.Ytpnflnocmekpnaa
