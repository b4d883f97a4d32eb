/- Walks: whether a rule matches. -/
import Derived.Test.YtfdkbhbnldcbmaaW3
import Derived.Test.YtfdkbhbnldcbmaaSpec2
namespace Go.Proofs.Ytfdkbhbnldcbmaa
open Go.RowKit
set_option linter.unusedVariables false

theorem Len_any (A : Option Addr) (n c : Nat) (w : World) : Calls Try.prog 186 #[.slice A n c] w fun e w' => e = .returned (.int .i64 n) ∧ w = w' := by
  go_enter Try.func186, Try.ntmps186
  go_wp2
  go_ret
  exact ⟨rfl, rfl⟩

theorem Rune_any (A : Option Addr) (n c : Nat) (l : List Int) (k : Nat) (x : Int) (w : World) (h : Runes w A n c l) (hx : l[k]? = some x) :
    Calls Try.prog 187 #[.slice A n c, .int .i64 k] w fun e w' => e = .returned (.int .i32 x) ∧ w = w' := by
  have hlt := lt_of_get hx
  rw [h.len] at hlt
  obtain ⟨b, off, rfl, _, hc, _⟩ := h.rune hx
  have hi : (k : Int) < (n : Int) := by omega
  clear hx h
  go_enter Try.func187, Try.ntmps187
  go_wp2
  go_ret
  exact ⟨rfl, rfl⟩

theorem method_len (A : Option Addr) (n c : Nat) (w : World) : (method 299 109 (.slice A n c) "Len").run Try.prog w = .ok (186, .slice A n c) w := by kernel_rfl
theorem method_rune (A : Option Addr) (n c : Nat) (w : World) : (method 299 109 (.slice A n c) "Rune").run Try.prog w = .ok (187, .slice A n c) w := by kernel_rfl

theorem zipHas_cons {s : List Sp} {r : List (List Sp)} {x : Int} {t : List Int} : zipHas (s :: r) (x :: t) = (has s x && zipHas r t) := rfl

set_option maxHeartbeats 800000 in
theorem all_any (A : Option Addr) (n c : Nat) (t : List Int) (at_ : Int) (B : Option Addr) (m d : Nat) (l : List (List Sp)) (w : World) (h : Runes w A n c t) (hl : Sets w B m d l) (hok : okSets l)
    (hmm : m ≤ 60000) (hnn : n ≤ 60000) :
    Calls Try.prog 135 #[.iface 109 (.slice A n c), .int .i64 at_, .slice B m d] w fun e w' => e = .returned (.bool (allAt t at_ l)) ∧ Ext w w' := by
  have hlen := Lib.hid h.len
  have hlen2 := Lib.hid hl.len
  have em := fun w => method_len A n c w
  have er := fun w => method_rune A n c w
  by_cases h0 : at_ < 0
  · have H := Lib.hid (allAt_neg (t := t) (l := l) h0)
    go_enter Try.func135, Try.ntmps135
    go_wp2
    go_ret
    rw [H.out]; exact ⟨rfl, Ext.refl _⟩
  have h0' : decide (at_ < 0) = false := by simpa using h0
  by_cases h1 : (n : Int) - (m : Int) < at_
  · have H := Lib.hid (allAt_far (t := t) (l := l) (a := at_) (by rw [hlen.out, hlen2.out]; exact h1))
    have h1' : decide ((n : Int) - (m : Int) < at_) = true := by simpa using h1
    go_enter Try.func135, Try.ntmps135
    go_wp2_with (go_at_call 186; refine (Len_any _ _ _ _).mono ?_; rintro e w' ⟨rfl, rfl⟩)
    go_ret
    rw [H.out]; exact ⟨rfl, Ext.refl _⟩
  have h1' : decide ((n : Int) - (m : Int) < at_) = false := by simpa using h1
  obtain ⟨a, rfl⟩ := Int.eq_ofNat_of_zero_le (by omega : 0 ≤ at_)
  have HA := Lib.hid (allAt_in (t := t) (l := l) (a := a) (by omega) (by rw [hlen.out, hlen2.out]; omega))
  have ham : a + m ≤ n := by omega
  clear h1
  go_enter Try.func135, Try.ntmps135
  go_wp2_with (go_at_call 186; refine (Len_any _ _ _ _).mono ?_; rintro e w' ⟨rfl, rfl⟩)
  go_loopw [22] (fun i wr => ∃ k : Nat, k ≤ m ∧ i = .int .i64 k ∧ zipHas l (t.drop a) = zipHas (l.drop k) (t.drop (a + k)) ∧ Ext w wr) (fun i _ => m - (intOf i).toNat)
  case atStart => exact ⟨0, by omega, rfl, rfl, Ext.refl _⟩
  case round =>
    obtain ⟨k, hk, rfl, hkk, hx⟩ := hrel
    have HK := Lib.hid hkk; clear hkk
    by_cases hlt : k < m
    · obtain ⟨S, hSS⟩ := hl.idx hlt
      obtain ⟨b, off, A', n', c', rfl, ⟨_, hne⟩, hc, hsl⟩ := (hl.ext hx).sl hSS
      obtain ⟨x, hxx⟩ := h.idx (k := a + k) (by omega)
      have HR := Lib.hid (Rune_any A n c t (a + k) x wr (h.ext hx) hxx)
      have HH := Lib.hid (setsHas_any A' n' c' S x wr hsl (hok S (List.mem_of_getElem? hSS)))
      have HZ := Lib.hid (show zipHas (l.drop k) (t.drop (a + k)) = (has S x && zipHas (l.drop (k + 1)) (t.drop (a + k + 1))) by rw [drop_cons hSS, drop_cons hxx]; rfl)
      clear hSS hxx
      have hak : (a : Int) + (k : Int) = ((a + k : Nat) : Int) := by omega
      have HAK := Lib.hid hak; clear hak
      cases hh : has S x
      · have H2 := Lib.hid hh; clear hh
        go_wp2_with (first | (go_at_call 187; rw [HAK.out]; refine HR.out.mono ?_; rintro e w' ⟨rfl, rfl⟩) | (go_at_call 51; refine HH.out.mono ?_; rintro e w1 ⟨rfl, hx1⟩; rw [H2.out]))
        go_ret
        rw [HA.out, Int.toNat_natCast, HK.out, HZ.out, H2.out, Bool.false_and]
        exact ⟨rfl, hx.trans hx1⟩
      · have H2 := Lib.hid hh; clear hh
        go_wp2_with (first | (go_at_call 187; rw [HAK.out]; refine HR.out.mono ?_; rintro e w' ⟨rfl, rfl⟩) | (go_at_call 51; refine HH.out.mono ?_; rintro e w1 ⟨rfl, hx1⟩; rw [H2.out]))
        go_roundw
        case rel => exact ⟨k + 1, by omega, by go_num, by rw [HK.out, HZ.out, H2.out, Bool.true_and]; rfl, hx.trans hx1⟩
        case measure => simp [intOf]; omega
    · go_wp2
      go_ret
      rw [HA.out, Int.toNat_natCast, HK.out, drop_end hlen2.out hlt]
      exact ⟨rfl, hx⟩

end Go.Proofs.Ytfdkbhbnldcbmaa
