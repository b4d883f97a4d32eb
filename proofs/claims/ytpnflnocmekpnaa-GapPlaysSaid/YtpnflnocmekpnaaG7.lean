/- Walk of Runes. -/
import Derived.Test.YtpnflnocmekpnaaG6
import Derived.BigRegion
namespace Go.Proofs.Ytpnflnocmekpnaa
open Go.RowKit
set_option linter.unusedVariables false
set_option linter.unusedSimpArgs false

set_option maxRecDepth 100000 in
set_option maxHeartbeats 4000000 in
theorem Runes_any {base : Nat} {w : World} {pb : Nat} {t : List Int} {a : Nat} (h : Buf base w pb t a) :
    Calls Try.prog 15 #[.pointer (some ⟨pb, 0, none⟩)] w fun e w' => ∃ v, e = .returned v ∧ Ext w w' ∧ OwnR rRune 21 1 w.heap.size w' v t := by
  obtain ⟨ab, L, tz, hb, b1, b2, e⟩ := h
  obtain ⟨hl, ht⟩ := Buf.len (base := base) hb e
  have l1 := hb.le; have l2 := hb.le'; have l3 := hb.max
  have hc1 : ∀ W, (Instr.sliceAt 22 (.slice (some ⟨ab, 0, none⟩) L.length L.length) none (some (.int .i64 (a : Int))) none).run Try.prog W = .ok (.slice (some ⟨ab, 0, none⟩) a L.length) W := fun W => run_cut_h tRunes _ L.length L.length a a rfl (by omega) W
  have hc2 : ∀ W, (Instr.sliceAt 22 (.slice (some ⟨ab, 0, none⟩) L.length L.length) (some (.int .i64 (tz : Int))) none none).run Try.prog W = .ok (.slice (cutA (some ⟨ab, 0, none⟩) L.length tz 1) (L.length - tz) (L.length - tz)) W := fun W => run_cut_l tRunes _ _ _ tz tz rfl (by omega) W
  have h0 := hb.c0; have h1 := hb.c1; have h2 := hb.c2
  have e0 := (Ext.refl w).drew
  have S1 := (hb.ext e0).sl.take (hi := a) (by omega)
  have HB := Lib.hid hb
  have o0 := OwnR.nil rRune 21 1 w.heap.size w.drew
  have ha : (L.take a).length = a := by simp; omega
  have HA := Lib.hid ha
  have HE := Lib.hid e
  have hb1 : a ≤ 60000 := by omega
  have hb2 : a + (L.length - tz) ≤ 60000 := by omega
  clear hb e ha
  go_enter Try.func15, Try.ntmps15
  go_wp2
  go_region_held3 (fun w' => w'.cell? ⟨pb, 0, none⟩ = some (.slice (some ⟨ab, 0, none⟩) L.length L.length) ∧ w'.cell? ⟨pb, 1, none⟩ = some (.int .i64 (a : Nat)) ∧ w'.cell? ⟨pb, 2, none⟩ = some (.int .i64 (tz : Nat)))
    (first | go_keep | exact ⟨p0, p1, p2⟩ | exact ⟨q0, q1, q2⟩)
    (first
      | (refine step_appS tRunes (by omega) rfl (.const (.slice none 0 0)) (.tmp 11) rfl rfl o0 rfl S1 (fun _ _ h => h) one_rune (keep_rune bot) (bot_no _) ?_ e0.size ?_
         · simp; omega
         intro v1 w1 o1 g1 hat1
         have e1 := e0.app g1 o0
         simp only [List.nil_append] at o1
         have HB1 := HB.out.ext e1
         have S2 := HB1.sl.drop (lo := tz) (by omega)
         have p0 := HB1.c0; have p1 := HB1.c1; have p2 := HB1.c2)
      | (refine step_appS tRunes (by omega) rfl (.tmp 12) (.tmp 21) rfl rfl o1 rfl S2 (fun _ _ h => h) one_rune (keep_rune bot) (bot_no _) ?_ e1.size ?_
         · rw [HA.out]; exact hb2
         intro v2 w2 o2 g2 hat2
         have e2 := e1.app g2 o1
         have HB2 := HB.out.ext e2
         have q0 := HB2.c0; have q1 := HB2.c1; have q2 := HB2.c2))
  all_goals
    rw [← HE.out] at o2
    have O2 := Lib.hid o2; have E2 := Lib.hid e2
    clear g1 g2 hat1 hat2 o1 o2 e1 e2 S1 S2 HB1 HB2
    go_wp2
    go_ret
    exact ⟨v2, rfl, E2.out, O2.out⟩

end Go.Proofs.Ytpnflnocmekpnaa
