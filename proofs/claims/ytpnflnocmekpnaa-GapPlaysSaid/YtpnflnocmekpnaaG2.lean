/- Walks of the buffer's small methods. -/
import Derived.Test.YtpnflnocmekpnaaG1
import Derived.Test.YtpnflnocmekpnaaProg
import Derived.RegionTactic
namespace Go.Proofs.Ytpnflnocmekpnaa
open Go.RowKit
set_option linter.unusedVariables false
set_option linter.unusedSimpArgs false

set_option maxHeartbeats 400000 in
theorem Len_any {w : World} {pb ab : Nat} {L : List Int} {fr to : Nat} (h : BufB w pb ab L fr to) :
    Calls Try.prog 9 #[.pointer (some ⟨pb, 0, none⟩)] w fun e w' => e = .returned (.int .i64 ((L.length - (to - fr) : Nat) : Int)) ∧ ∃ n, w' = w.drewN n := by
  have h0 := h.c0; have h1 := h.c1; have h2 := h.c2
  have l1 := h.le; have l2 := h.le'; have l3 := h.max
  go_enter Try.func9, Try.ntmps9
  go_wp2
  go_quiet (fail)
  go_wp2
  go_ret
  refine ⟨?_, _, rfl⟩
  go_num

theorem At_any {w : World} {pb ab : Nat} {L : List Int} {fr to : Nat} (h : BufB w pb ab L fr to) :
    Calls Try.prog 10 #[.pointer (some ⟨pb, 0, none⟩)] w fun e w' => e = .returned (.int .i64 (fr : Nat)) ∧ w' = w := by
  have h1 := h.c1
  go_enter Try.func10, Try.ntmps10
  go_wp2
  go_ret
  exact ⟨rfl, rfl⟩

theorem Del_any {base : Nat} {w : World} {pb : Nat} {t : List Int} {at_ : Nat} (h : Buf base w pb t at_) (n : Nat) (hn : n ≤ t.length - at_) :
    Calls Try.prog 13 #[.pointer (some ⟨pb, 0, none⟩), .int .i64 (n : Nat)] w fun e w' => e = .returned (.tuple #[]) ∧ Below base w w' ∧ Buf base w' pb (t.take at_ ++ t.drop (at_ + n)) at_ := by
  obtain ⟨ab, L, to, h, b1, b2, e⟩ := h
  have h0 := h.c0; have h1 := h.c1; have h2 := h.c2
  have l1 := h.le; have l2 := h.le'; have l3 := h.max
  have hlen := Buf.len (base := base) h e
  have f := h.fp
  have h' := h.setTo (t := to + n) (by omega) (by omega)
  have fin : Buf base (w.setCell ⟨pb, 2, none⟩ (.int .i64 ((to + n : Nat) : Int))) pb (t.take at_ ++ t.drop (at_ + n)) at_ := by
    refine ⟨ab, L, to + n, h', b1, b2, ?_⟩
    have hl : (L.take at_).length = at_ := by simp; omega
    rw [e]
    congr 1
    · rw [List.take_append_of_le_length (by omega), List.take_of_length_le (by omega)]
    · rw [List.drop_append, List.drop_of_length_le (by omega), List.nil_append, List.drop_drop]
      congr 1; omega
  have bel : Below base w (w.setCell ⟨pb, 2, none⟩ (.int .i64 ((to + n : Nat) : Int))) := Below.setCell (Below.refl _ _) b1 _
  have F := Lib.hid fin; have B := Lib.hid bel
  clear fin bel h h'
  go_enter Try.func13, Try.ntmps13
  go_wp2
  go_end0
  exact ⟨rfl, B.out, F.out⟩

theorem Back_any {base : Nat} {w : World} {pb : Nat} {t : List Int} {at_ : Nat} (h : Buf base w pb t at_) (n : Nat) (hn : n ≤ at_) :
    Calls Try.prog 14 #[.pointer (some ⟨pb, 0, none⟩), .int .i64 (n : Nat)] w fun e w' => e = .returned (.tuple #[]) ∧ Below base w w' ∧ Buf base w' pb (t.take (at_ - n) ++ t.drop at_) (at_ - n) := by
  obtain ⟨ab, L, to, h, b1, b2, e⟩ := h
  have h0 := h.c0; have h1 := h.c1; have h2 := h.c2
  have l1 := h.le; have l2 := h.le'; have l3 := h.max
  have hlen := Buf.len (base := base) h e
  have f := h.fp
  have h' := h.setFr (f := at_ - n) (by omega)
  have fin : Buf base (w.setCell ⟨pb, 1, none⟩ (.int .i64 ((at_ - n : Nat) : Int))) pb (t.take (at_ - n) ++ t.drop at_) (at_ - n) := by
    refine ⟨ab, L, to, h', b1, b2, ?_⟩
    have hl : (L.take at_).length = at_ := by simp; omega
    rw [e]
    congr 1
    · rw [List.take_append_of_le_length (by omega), List.take_take]
      congr 1; omega
    · rw [List.drop_append, List.drop_of_length_le (by omega), List.nil_append, hl]
      simp
  have bel : Below base w (w.setCell ⟨pb, 1, none⟩ (.int .i64 ((at_ - n : Nat) : Int))) := Below.setCell (Below.refl _ _) b1 _
  rw [show ((at_ - n : Nat) : Int) = (at_ : Int) - (n : Int) by omega] at fin bel
  have F := Lib.hid fin; have B := Lib.hid bel
  clear fin bel h h'
  go_enter Try.func14, Try.ntmps14
  go_wp2
  go_end0
  exact ⟨rfl, B.out, F.out⟩

end Go.Proofs.Ytpnflnocmekpnaa
