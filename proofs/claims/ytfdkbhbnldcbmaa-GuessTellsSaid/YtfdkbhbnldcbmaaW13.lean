/- Walks: what is wrong with rules. -/
import Derived.Test.YtfdkbhbnldcbmaaW4
import Derived.Test.YtfdkbhbnldcbmaaRule
import Derived.Test.YtfdkbhbnldcbmaaCells
namespace Go.Proofs.Ytfdkbhbnldcbmaa
open Go.RowKit
set_option linter.unusedVariables false
set_option linter.unusedSimpArgs false

theorem fault_val {a b : Int} {k : Nat} {p : Int × Nat} (h : p = (a, k)) (hb : b = k) : Ending.returned (.agg #[.int .i64 a, .int .i64 b]) = .returned (.agg #[.int .i64 p.1, .int .i64 p.2]) := by rw [h, hb]

set_option maxRecDepth 100000 in
set_option maxHeartbeats 2000000 in
theorem Wrongs_any (A : Option Addr) (n c : Nat) (l : List Rule) (w : World) (h : Rules w A n c l) :
    Calls Try.prog 31 #[.slice A n c] w fun e w' => e = .returned (.agg #[.int .i64 (wrongRules l).1, .int .i64 (wrongRules l).2]) ∧ Ext w w' := by
  have hm := h.max; unfold maxLen at hm
  have hcap := h.cap
  by_cases hbig : 200 < n
  · have H := Lib.hid (wrongRules_big (l := l) (by rw [h.len]; exact hbig))
    go_enter Try.func31, Try.ntmps31
    go_wp2
    refine bodyPost_ret (v := .agg #[.int .i64 5, .int .i64 0]) (by simp [results, Try.results31, go_sem]) rfl ?_
    exact ⟨fault_val H.out rfl, (Ext.refl w).alloc _⟩
  have HS := Lib.hid (wrongRules_small (l := l) (by rw [h.len]; exact hbig))
  have hlen := Lib.hid h.len
  have e1 := (Ext.refl w).alloc (.cells #[.int .i64 0, .int .i64 0] 38)
  have k0 : (w.alloc (.cells #[.int .i64 0, .int .i64 0] 38)).cell? ⟨w.heap.size, 0, none⟩ = some (.int .i64 0) := by simp
  have k1 : (w.alloc (.cells #[.int .i64 0, .int .i64 0] 38)).cell? ⟨w.heap.size, 1, none⟩ = some (.int .i64 0) := by simp
  have wr1 := Wr.new w #[.int .i64 0, .int .i64 0] 38
  go_enter Try.func31, Try.ntmps31
  go_wp2
  generalize w.alloc (.cells #[.int .i64 0, .int .i64 0] 38) = w1 at *
  go_loopw [12] (fun i wr => ∃ k : Nat, k ≤ n ∧ i = .int .i64 k ∧ wrongRules l = wrongAt k (l.drop k) ∧ Ext w1 wr) (fun i _ => n - (intOf i).toNat)
  case atStart => exact ⟨0, by omega, rfl, HS.out, Ext.refl _⟩
  case round =>
    obtain ⟨k, hk, rfl, hkk, hx⟩ := hrel
    have HK := Lib.hid hkk; clear hkk
    have y0 := hx.cell k0
    have y1 := hx.cell k1
    have ex := e1.trans hx
    have wx := wr1.ext hx
    have wz := wx.2
    by_cases hlt : k < n
    · obtain ⟨r, hrr⟩ := h.idx hlt
      obtain ⟨b, off, s, f, A1, n1, c1, A2, n2, c2, A3, n3, c3, A4, n4, c4, q, rfl, ⟨_, hne⟩, hv, c0, c1', c2', c3', c4', c5', c6'⟩ := (h.ext ex).rule hrr
      have HD := Lib.hid (drop_cons hrr); clear hrr
      have ea := (Ext.refl wr).alloc (.cells #[.bool s, .bool f, .slice A1 n1 c1, .slice A2 n2 c2, .slice A3 n3 c3, .slice A4 n4 c4, .int .i64 q] 25)
      have HC := Lib.hid (Wrong_any s f A1 n1 c1 A2 n2 c2 A3 n3 c3 A4 n4 c4 q r _ (hv.ext (ea.agree top)))
      have za := ea.cell y0
      have zb := ea.cell y1
      by_cases hr : wrongRule r = 0
      · have HR := Lib.hid hr; clear hr
        go_wp2_with (go_at_call 23; refine HC.out.mono ?_; rintro e w3 ⟨rfl, hx3⟩; rw [HR.out])
        go_roundw
        case rel => exact ⟨k + 1, by omega, by go_num, by rw [HK.out, HD.out, wrongAt_ok HR.out], (hx.trans ea).trans hx3⟩
        case measure => simp [intOf]; omega
      · have hr' : (wrongRule r != 0) = true := by simpa using hr
        have HR := Lib.hid hr; clear hr
        go_wp2_with (go_at_call 23; refine HC.out.mono ?_; rintro e w3 ⟨rfl, hx3⟩; have zc := hx3.cell za; have zd := hx3.cell zb; have w3z := (wx.ext (ea.trans hx3)).2)
        refine bodyPost_ret (v := .agg #[.int .i64 (wrongRule r), .int .i64 k]) (by simp [results, Try.results31, go_sem, zc, zd]) rfl ?_
        exact ⟨fault_val (by rw [HK.out, HD.out, wrongAt_bad HR.out]) rfl, ext_set (ext_set ((ex.trans ea).trans hx3) (Nat.le_refl _) _ _) (Nat.le_refl _) _ _⟩
    · go_wp2
      refine bodyPost_ret (v := .agg #[.int .i64 0, .int .i64 0]) (by simp [results, Try.results31, go_sem, y0, y1]) rfl ?_
      exact ⟨fault_val (by rw [HK.out, drop_end hlen.out hlt]; rfl) rfl, ext_set (ext_set ex (Nat.le_refl _) _ _) (Nat.le_refl _) _ _⟩

set_option maxRecDepth 100000 in
set_option maxHeartbeats 2000000 in
theorem refWrongs_any (A : Option Addr) (n c : Nat) (l : List Rule) (w : World) (h : Rules w A n c l) :
    Calls Try.prog 32 #[.slice A n c] w fun e w' => e = .returned (.agg #[.int .i64 (wrongRules l).1, .int .i64 (wrongRules l).2]) ∧ Ext w w' := by
  have hm := h.max; unfold maxLen at hm
  have hcap := h.cap
  by_cases hbig : 200 < n
  · have H := Lib.hid (wrongRules_big (l := l) (by rw [h.len]; exact hbig))
    go_enter Try.func32, Try.ntmps32
    go_wp2
    refine bodyPost_ret (v := .agg #[.int .i64 5, .int .i64 0]) (by simp [results, Try.results32, go_sem]) rfl ?_
    exact ⟨fault_val H.out rfl, (Ext.refl w).alloc _⟩
  have HS := Lib.hid (wrongRules_small (l := l) (by rw [h.len]; exact hbig))
  have hlen := Lib.hid h.len
  have e1 := (Ext.refl w).alloc (.cells #[.int .i64 0, .int .i64 0] 38)
  have k0 : (w.alloc (.cells #[.int .i64 0, .int .i64 0] 38)).cell? ⟨w.heap.size, 0, none⟩ = some (.int .i64 0) := by simp
  have k1 : (w.alloc (.cells #[.int .i64 0, .int .i64 0] 38)).cell? ⟨w.heap.size, 1, none⟩ = some (.int .i64 0) := by simp
  have wr1 := Wr.new w #[.int .i64 0, .int .i64 0] 38
  go_enter Try.func32, Try.ntmps32
  go_wp2
  generalize w.alloc (.cells #[.int .i64 0, .int .i64 0] 38) = w1 at *
  go_loopw [11] (fun i wr => ∃ k : Nat, k ≤ n ∧ i = .int .i64 k ∧ wrongRules l = wrongAt k (l.drop k) ∧ Ext w1 wr) (fun i _ => n - (intOf i).toNat)
  case atStart => exact ⟨0, by omega, rfl, HS.out, Ext.refl _⟩
  case round =>
    obtain ⟨k, hk, rfl, hkk, hx⟩ := hrel
    have HK := Lib.hid hkk; clear hkk
    have y0 := hx.cell k0
    have y1 := hx.cell k1
    have ex := e1.trans hx
    have wx := wr1.ext hx
    have wz := wx.2
    by_cases hlt : k < n
    · obtain ⟨r, hrr⟩ := h.idx hlt
      obtain ⟨b, off, s, f, A1, n1, c1, A2, n2, c2, A3, n3, c3, A4, n4, c4, q, rfl, ⟨_, hne⟩, hv, c0, c1', c2', c3', c4', c5', c6'⟩ := (h.ext ex).rule hrr
      have HD := Lib.hid (drop_cons hrr); clear hrr
      have ea := Ext.refl wr
      have HC := Lib.hid (refWrong_any s f A1 n1 c1 A2 n2 c2 A3 n3 c3 A4 n4 c4 q r _ (hv.ext (ea.agree top)))
      have za := ea.cell y0
      have zb := ea.cell y1
      by_cases hr : wrongRule r = 0
      · have HR := Lib.hid hr; clear hr
        go_wp2_with (go_at_call 22; refine HC.out.mono ?_; rintro e w3 ⟨rfl, hx3⟩; rw [HR.out])
        go_roundw
        case rel => exact ⟨k + 1, by omega, by go_num, by rw [HK.out, HD.out, wrongAt_ok HR.out], (hx.trans ea).trans hx3⟩
        case measure => simp [intOf]; omega
      · have hr' : (wrongRule r != 0) = true := by simpa using hr
        have HR := Lib.hid hr; clear hr
        go_wp2_with (go_at_call 22; refine HC.out.mono ?_; rintro e w3 ⟨rfl, hx3⟩; have zc := hx3.cell za; have zd := hx3.cell zb; have w3z := (wx.ext (ea.trans hx3)).2)
        refine bodyPost_ret (v := .agg #[.int .i64 (wrongRule r), .int .i64 k]) (by simp [results, Try.results32, go_sem, zc, zd]) rfl ?_
        exact ⟨fault_val (by rw [HK.out, HD.out, wrongAt_bad HR.out]) rfl, ext_set (ext_set ((ex.trans ea).trans hx3) (Nat.le_refl _) _ _) (Nat.le_refl _) _ _⟩
    · go_wp2
      refine bodyPost_ret (v := .agg #[.int .i64 0, .int .i64 0]) (by simp [results, Try.results32, go_sem, y0, y1]) rfl ?_
      exact ⟨fault_val (by rw [HK.out, drop_end hlen.out hlt]; rfl) rfl, ext_set (ext_set ex (Nat.le_refl _) _ _) (Nat.le_refl _) _ _⟩

end Go.Proofs.Ytfdkbhbnldcbmaa
