/- Walks: whether a unit is made of what begins a text, by both (written by gen/gw73.py). -/
import Derived.Test.YtfdkbhbnldcbmaaW72
namespace Go.Proofs.Ytfdkbhbnldcbmaa
open Go.RowKit
set_option linter.unusedVariables false
set_option linter.unusedSimpArgs false

section
variable (A : Option Addr) (n c : Nat) (l : List Rule) (X : Option Addr) (m d : Nat) (t : List Int) (N : Nat) (u : Int) (w : World) (h : Rules w A n c l) (hok : ∀ r ∈ l, OkRule r) (ht : Runes w X m d t) (hm : m ≤ 4000) (hm0 : 0 < m) (hN : N ≤ 4000) (hu : i32 u)
set_option maxRecDepth 100000 in
set_option maxHeartbeats 1600000 in
include h hok ht hm hm0 hN hu in
theorem undone_any : Calls Try.prog 109 #[.slice A n c, .slice X m d, .int .i64 N, .int .i32 u] w fun e w' => e = .returned (.bool (undoneB l t N u)) ∧ Ext w w' := by
  have HF : Hid (Calls Try.prog 90 #[.slice A n c, .iface 109 (.slice X m d), .int .i64 0] w fun e w' => e = .returned (.int .i64 (first l t 0)) ∧ Ext w w') := Lib.hid (First_any A n c l X m d t 0 w h ht hm (by omega) hok)
  obtain ⟨x0, hx0⟩ := ht.idx hm0
  have hh0 : t.headD 0 = x0 := by cases t with | nil => simp at hx0 | cons y r => simp at hx0; subst hx0; rfl
  by_cases hk : first l t 0 < 0
  · have HR := Lib.hid (undone_no (n := N) (u := u) hk)
    have hk' : decide (first l t 0 < 0) = true := by simpa using hk
    rw [hh0] at HR
    obtain ⟨b1, off1, rfl, _, hc0, _, _⟩ := ht.rune hx0
    have HC0 : Hid (w.cell? ⟨b1, off1, none⟩ = some (.int .i32 x0)) := Lib.hid (by simpa using hc0)
    have hmi : (0 : Int) < (m : Int) := by omega
    clear hk hx0 hh0 hc0
    by_cases h1 : N = 1
    · subst h1
      by_cases hxu : x0 = u
      · subst hxu
        go_enter Try.func109, Try.ntmps109
        go_wp2_with (go_at_call 90; refine HF.out.mono ?_; rintro e w1 ⟨rfl, x1⟩; have k0 := x1.cell HC0.out)
        go_ret
        rw [HR.out]
        exact ⟨by simp, x1⟩
      · have hxu' : (x0 == u) = false := by simpa using hxu
        have HXU := Lib.hid hxu
        clear hxu
        go_enter Try.func109, Try.ntmps109
        go_wp2_with (go_at_call 90; refine HF.out.mono ?_; rintro e w1 ⟨rfl, x1⟩; have k0 := x1.cell HC0.out)
        go_ret
        rw [HR.out]
        exact ⟨by simp [HXU.out], x1⟩
    · have h1' : ((N : Int) == 1) = false := by simp; omega
      have HN1 := Lib.hid h1
      clear h1
      go_enter Try.func109, Try.ntmps109
      go_wp2_with (go_at_call 90; refine HF.out.mono ?_; rintro e w1 ⟨rfl, x1⟩)
      go_ret
      rw [HR.out]
      exact ⟨by simp [HN1.out], x1⟩
  · obtain ⟨i, r, hir, hhere, hfi⟩ := first_mem (by omega : 0 ≤ first l t 0)
    have HR := Lib.hid (undone_some (n := N) (u := u) hfi hir)
    have hil : i < n := by rw [← h.len]; exact (List.getElem?_eq_some_iff.1 hir).1
    have HFI := Lib.hid hfi
    obtain ⟨bo, off, s', f', A1, n1', c1, A2, n2, c2, A3, n3, c3, A4, n4, c4, q, rfl, ⟨hbo, hbn⟩, hv, r0, r1, r2, r3, r4, r5, r6⟩ := h.rule hir
    have HT := Lib.hid (fun W (e : Ext w W) => hv.target.ext e)
    have R3 := Lib.hid r3; have R5 := Lib.hid r5
    rw [hv.source.len] at HR
    have hk' : decide ((i : Int) < 0) = false := by simp
    clear hk hir hhere hfi hv r0 r1 r2 r3 r4 r5 r6 hx0 hh0
    by_cases h1 : n2 = N
    · subst h1
      generalize r.target = tg at *
      go_enter Try.func109, Try.ntmps109
      go_wp2_with (first
        | (go_at_call 90; refine HF.out.mono ?_; rintro e w1 ⟨rfl, x1⟩; rw [HFI.out]; have t3 := x1.cell R3.out; have t5 := x1.cell R5.out; have xa := (Ext.refl w1).alloc (.cells #[.int .i32 u] 21); have on := oneP_new w1 u 21 hu; have hT2 := HT.out _ (x1.trans xa))
        | (go_at_call 104; refine (Equal_any _ _ _ _ _ _ _ _ _ hT2 on).mono ?_; rintro e w2 ⟨rfl, x2⟩))
      go_ret
      rw [HR.out]
      exact ⟨by simp, x1.trans (xa.trans x2)⟩
    · have h1' : ((n2 : Int) == (N : Int)) = false := by simp; omega
      have HN1 := Lib.hid h1
      clear h1
      go_enter Try.func109, Try.ntmps109
      go_wp2_with (go_at_call 90; refine HF.out.mono ?_; rintro e w1 ⟨rfl, x1⟩; rw [HFI.out]; have t3 := x1.cell R3.out; have t5 := x1.cell R5.out)
      go_ret
      rw [HR.out]
      exact ⟨by simp [HN1.out], x1⟩

set_option maxRecDepth 100000 in
set_option maxHeartbeats 1600000 in
include h hok ht hm hm0 hN hu in
theorem refUndone_any : Calls Try.prog 112 #[.slice A n c, .slice X m d, .int .i64 N, .int .i32 u] w fun e w' => e = .returned (.bool (undoneB l t N u)) ∧ Ext w w' := by
  have HF : Hid (Calls Try.prog 35 #[.slice A n c, .slice X m d, .int .i64 0] w fun e w' => e = .returned (.int .i64 (first l t 0)) ∧ Ext w w') := Lib.hid (refWhich_any A n c l X m d t 0 w h ht hm (by omega) hok)
  obtain ⟨x0, hx0⟩ := ht.idx hm0
  have hh0 : t.headD 0 = x0 := by cases t with | nil => simp at hx0 | cons y r => simp at hx0; subst hx0; rfl
  by_cases hk : first l t 0 < 0
  · have HR := Lib.hid (undone_no (n := N) (u := u) hk)
    have hk' : decide (first l t 0 < 0) = true := by simpa using hk
    rw [hh0] at HR
    obtain ⟨b1, off1, rfl, _, hc0, _, _⟩ := ht.rune hx0
    have HC0 : Hid (w.cell? ⟨b1, off1, none⟩ = some (.int .i32 x0)) := Lib.hid (by simpa using hc0)
    have hmi : (0 : Int) < (m : Int) := by omega
    clear hk hx0 hh0 hc0
    by_cases h1 : N = 1
    · subst h1
      by_cases hxu : x0 = u
      · subst hxu
        go_enter Try.func112, Try.ntmps112
        go_wp2_with (go_at_call 35; refine HF.out.mono ?_; rintro e w1 ⟨rfl, x1⟩; have k0 := x1.cell HC0.out)
        go_ret
        rw [HR.out]
        exact ⟨by simp, x1⟩
      · have hxu' : (x0 == u) = false := by simpa using hxu
        have HXU := Lib.hid hxu
        clear hxu
        go_enter Try.func112, Try.ntmps112
        go_wp2_with (go_at_call 35; refine HF.out.mono ?_; rintro e w1 ⟨rfl, x1⟩; have k0 := x1.cell HC0.out)
        go_ret
        rw [HR.out]
        exact ⟨by simp [HXU.out], x1⟩
    · have h1' : ((N : Int) == 1) = false := by simp; omega
      have HN1 := Lib.hid h1
      clear h1
      go_enter Try.func112, Try.ntmps112
      go_wp2_with (go_at_call 35; refine HF.out.mono ?_; rintro e w1 ⟨rfl, x1⟩)
      go_ret
      rw [HR.out]
      exact ⟨by simp [HN1.out], x1⟩
  · obtain ⟨i, r, hir, hhere, hfi⟩ := first_mem (by omega : 0 ≤ first l t 0)
    have HR := Lib.hid (undone_some (n := N) (u := u) hfi hir)
    have hil : i < n := by rw [← h.len]; exact (List.getElem?_eq_some_iff.1 hir).1
    have HFI := Lib.hid hfi
    obtain ⟨bo, off, s', f', A1, n1', c1, A2, n2, c2, A3, n3, c3, A4, n4, c4, q, rfl, ⟨hbo, hbn⟩, hv, r0, r1, r2, r3, r4, r5, r6⟩ := h.rule hir
    have HT := Lib.hid (fun W (e : Ext w W) => hv.target.ext e)
    have R3 := Lib.hid r3; have R5 := Lib.hid r5
    rw [hv.source.len] at HR
    have hk' : decide ((i : Int) < 0) = false := by simp
    clear hk hir hhere hfi hv r0 r1 r2 r3 r4 r5 r6 hx0 hh0
    by_cases h1 : n2 = N
    · subst h1
      generalize r.target = tg at *
      go_enter Try.func112, Try.ntmps112
      go_wp2_with (first
        | (go_at_call 35; refine HF.out.mono ?_; rintro e w1 ⟨rfl, x1⟩; rw [HFI.out]; have t3 := x1.cell R3.out; have t5 := x1.cell R5.out; have xa := (Ext.refl w1).alloc (.cells #[.int .i32 u] 21); have on := oneP_new w1 u 21 hu; have hT2 := HT.out _ (x1.trans xa))
        | (go_at_call 30; refine (Same_any _ _ _ _ _ _ _ _ _ hT2 on).mono ?_; rintro e w2 ⟨rfl, x2⟩))
      go_ret
      rw [HR.out]
      exact ⟨by simp, x1.trans (xa.trans x2)⟩
    · have h1' : ((n2 : Int) == (N : Int)) = false := by simp; omega
      have HN1 := Lib.hid h1
      clear h1
      go_enter Try.func112, Try.ntmps112
      go_wp2_with (go_at_call 35; refine HF.out.mono ?_; rintro e w1 ⟨rfl, x1⟩; rw [HFI.out]; have t3 := x1.cell R3.out; have t5 := x1.cell R5.out)
      go_ret
      rw [HR.out]
      exact ⟨by simp [HN1.out], x1⟩

end

end Go.Proofs.Ytfdkbhbnldcbmaa
