/- Walk: whether a rule matches, by the document. -/
import Derived.Test.YtfdkbhbnldcbmaaLibL
import Derived.Test.YtfdkbhbnldcbmaaRule
import Derived.Test.YtfdkbhbnldcbmaaW3
namespace Go.Proofs.Ytfdkbhbnldcbmaa
open Go.RowKit
set_option linter.unusedVariables false
set_option linter.unusedSimpArgs false

section
variable (s f : Bool) (A1 : Option Addr) (n1 c1 : Nat) (A2 : Option Addr) (n2 c2 : Nat) (A3 : Option Addr) (n3 c3 : Nat) (A4 : Option Addr) (n4 c4 : Nat) (q : Int) (r : Rule) (w : World)

set_option maxRecDepth 100000 in
set_option maxHeartbeats 2000000 in
theorem refMatches_any (A : Option Addr) (n c : Nat) (t : List Int) (a : Nat) (h : Runes w A n c t) (hn : n ≤ 4000) (ha : a ≤ n) (hl1 : n1 ≤ 20) (hl2 : n2 ≤ 20) (hl3 : n3 ≤ 20)
    (hv : RuleV w s f A1 n1 c1 A2 n2 c2 A3 n3 c3 A4 n4 c4 q r) :
    Calls Try.prog 28 #[.agg #[.bool s, .bool f, .slice A1 n1 c1, .slice A2 n2 c2, .slice A3 n3 c3, .slice A4 n4 c4, .int .i64 q], .slice A n c, .int .i64 a] w
      fun e w' => e = .returned (.bool (refMatch r t a)) ∧ Ext w w' := by
  have e1 := (Ext.refl w).alloc (.cells #[.bool s, .bool f, .slice A1 n1 c1, .slice A2 n2 c2, .slice A3 n3 c3, .slice A4 n4 c4, .int .i64 q] 25)
  have r1 := RuleAt.new (s := s) (f := f) (A1 := A1) (n1 := n1) (c1 := c1) (A2 := A2) (n2 := n2) (c2 := c2) (A3 := A3) (n3 := n3) (c3 := c3) (A4 := A4) (n4 := n4) (c4 := c4) (q := q) w 25
  obtain ⟨k0, k1, k2, k3, k4, _, _⟩ := r1
  have kx := (keep_setB w.heap.size).x
  have sb := (sets_lt hv.before); have ss := (sets_lt hv.source); have sa := (sets_lt hv.after)
  have hb : ∀ g, w.heap.size ≤ g → ¬ g < w.heap.size := fun g hg => by omega
  have HB := Lib.hid hb; clear hb
  have hlb := Lib.hid hv.before.len; have hls := Lib.hid hv.source.len; have hla := Lib.hid hv.after.len
  have hlen := Lib.hid h.len
  have o0 := OwnR.nil (rSl rSpan 2 (fun b => b < w.heap.size)) 67 1 w.heap.size (w.alloc (.cells #[.bool s, .bool f, .slice A1 n1 c1, .slice A2 n2 c2, .slice A3 n3 c3, .slice A4 n4 c4, .int .i64 q] 25)).drew
  have HF : Hid (r.start = s ∧ r.fin = f) := ⟨hv.start, hv.fin⟩
  clear hv
  go_enter Try.func28, Try.ntmps28
  go_wp2_with fail
  go_region_held3 (fun w' => w'.cell? ⟨w.heap.size, 0, none⟩ = some (.bool s) ∧ w'.cell? ⟨w.heap.size, 1, none⟩ = some (.bool f) ∧ w'.cell? ⟨w.heap.size, 2, none⟩ = some (.slice A1 n1 c1) ∧ w'.cell? ⟨w.heap.size, 3, none⟩ = some (.slice A2 n2 c2) ∧ w'.cell? ⟨w.heap.size, 4, none⟩ = some (.slice A3 n3 c3))
    (first | go_keep | exact ⟨p0, p1, p2, p3, p4⟩ | exact ⟨q0, q1, q2, q3, q4⟩ | exact ⟨z0, z1, z2, z3, z4⟩)
    (first
      | (refine step_appS T_set (by omega) rfl (.tmp 12) (.tmp 14) rfl rfl o0 rfl (sb.extX kx e1.drew) (fun _ _ h => h) (one_sl _ _ _) (keep_setB w.heap.size) (fun g hg => HB.out g (o0.lt g hg).1) ?_ e1.drew.size ?_
         · simp; omega
         intro v1 w1 oo1 g1 hat1
         have ex1 := e1.drew.app g1 o0
         have m1 : (Value.slice none 0 0).ownBlock ≠ some w.heap.size := by simp [Value.ownBlock]
         have p0 := far_cell g1 k0 m1; have p1 := far_cell g1 k1 m1; have p2 := far_cell g1 k2 m1; have p3 := far_cell g1 k3 m1; have p4 := far_cell g1 k4 m1)
      | (refine step_appS T_set (by omega) rfl (.tmp 15) (.tmp 17) rfl rfl oo1 rfl (ss.extX kx ex1) (fun _ _ h => h) (one_sl _ _ _) (keep_setB w.heap.size) (fun g hg => HB.out g (oo1.lt g hg).1) ?_ ex1.size ?_
         · simp [hlb.out]; omega
         intro v2 w2 oo2 g2 hat2
         have ex2 := ex1.app g2 oo1
         have m2 : v1.ownBlock ≠ some w.heap.size := own_ne hat1 m1 (by simp)
         have q0 := far_cell g2 p0 m2; have q1 := far_cell g2 p1 m2; have q2 := far_cell g2 p2 m2; have q3 := far_cell g2 p3 m2; have q4 := far_cell g2 p4 m2)
      | (refine step_appS T_set (by omega) rfl (.tmp 18) (.tmp 20) rfl rfl oo2 rfl (sa.extX kx ex2) (fun _ _ h => h) (one_sl _ _ _) (keep_setB w.heap.size) (fun g hg => HB.out g (oo2.lt g hg).1) ?_ ex2.size ?_
         · simp [hlb.out, hls.out]; omega
         intro v3 w3 oo3 g3 hat3
         have ex3 := ex2.app g3 oo2
         have m3 : v2.ownBlock ≠ some w.heap.size := own_ne hat2 m2 (by have := g1.size; simp at this; omega)
         have z0 := far_cell g3 q0 m3; have z1 := far_cell g3 q1 m3; have z2 := far_cell g3 q2 m3; have z3 := far_cell g3 q3 m3; have z4 := far_cell g3 q4 m3))
  have oo : OwnR (rSl rSpan 2 (fun b => b < w.heap.size)) 67 1 w.heap.size w3 v3 (r.before ++ r.source ++ r.after) := by simpa using oo3
  obtain ⟨AW, cW, rfl, hW0⟩ := oo.top
  have hW := sets_top hW0
  have hL : (r.before ++ r.source ++ r.after).length = n1 + n2 + n3 := by simp [hlb.out, hls.out, hla.out]; omega
  clear g1 g2 g3 hat1 hat2 hat3 oo1 oo2 oo3 o0 sb ss sa ex1 ex2 m1 m2 m3 e1 hW0 oo p0 p1 p2 p3 p4 q0 q1 q2 q3 q4 k0 k1 k2 k3 k4 kx
  have HRM : Hid (refMatch r t a = (winAt t ((a : Int) - n1) (r.before ++ r.source ++ r.after) && !(s && decide (0 < (a : Int) - n1)) && !(f && decide ((a : Int) - n1 + (r.before ++ r.source ++ r.after).length < n)))) := by
    show _ = _
    unfold refMatch
    rw [HF.out.1, HF.out.2, hlb.out, hlen.out]
  generalize r.before ++ r.source ++ r.after = want at *
  have hL60 : want.length ≤ 60 := by omega
  clear hL
  generalize hwl : want.length = L at hW hL60 HRM ⊢
  have HWL := Lib.hid hwl; clear hwl
  go_wp2
  go_loopw [29] (fun i wr => ∃ k : Nat, k ≤ L ∧ i = .int .i64 k ∧ winAt t ((a : Int) - n1) want = winAt t ((a : Int) - n1 + k) (want.drop k) ∧ Ext w3 wr) (fun i _ => L - (intOf i).toNat)
  case atStart => exact ⟨0, by omega, rfl, by simp, Ext.refl _⟩
  case round =>
    obtain ⟨k, hk, rfl, hkk, hx⟩ := hrel
    have HK := Lib.hid hkk; clear hkk
    have y0 := hx.cell z0
    have y1 := hx.cell z1
    by_cases hlt : k < L
    · obtain ⟨S, hSS⟩ := hW.idx hlt
      obtain ⟨b2, o2, A', n', c', rfl, ⟨_, hne⟩, hc, hsl⟩ := (hW.ext hx).sl hSS
      have HD := Lib.hid (drop_cons hSS); clear hSS
      by_cases t1 : (a : Int) - n1 + k < 0
      · have HZ : Hid (refMatch r t a = false) := by show _ = _; rw [HRM.out, HK.out, HD.out, winAt_neg t1]; simp
        go_wp2
        go_ret
        rw [HZ.out]; exact ⟨rfl, ex3.trans hx⟩
      have t1' : decide ((a : Int) - n1 + k < 0) = false := by simpa using t1
      by_cases t2 : (n : Int) ≤ (a : Int) - n1 + k
      · have HZ : Hid (refMatch r t a = false) := by show _ = _; rw [HRM.out, HK.out, HD.out, winAt_far (by rw [hlen.out]; exact t2)]; simp
        have t2' : decide ((n : Int) ≤ (a : Int) - n1 + k) = true := by simpa using t2
        go_wp2
        go_ret
        rw [HZ.out]; exact ⟨rfl, ex3.trans hx⟩
      have t2' : decide ((n : Int) ≤ (a : Int) - n1 + k) = false := by simpa using t2
      have t3 : (a : Int) - n1 + k < n := by omega
      have t4 : 0 ≤ (a : Int) - n1 + k := by omega
      obtain ⟨x, hxx⟩ := h.idx (k := ((a : Int) - n1 + k).toNat) (by omega)
      obtain ⟨b3, o3, rfl, ⟨_, hne3⟩, hc3, _⟩ := (h.ext (ex3.trans hx)).rune hxx
      have HZ : Hid (winAt t ((a : Int) - n1 + k) (want.drop k) = (has S x && winAt t ((a : Int) - n1 + (k + 1 : Nat)) (want.drop (k + 1)))) := by
        show _ = _
        obtain ⟨m, hm⟩ := Int.eq_ofNat_of_zero_le t4
        rw [hm] at hxx ⊢
        rw [HD.out, winAt_in (by simpa using hxx)]
        congr 2
        omega
      clear hxx t1 t2
      have HC := Lib.hid (refHas_any A' n' c' S x wr hsl)
      cases hh : has S x
      · have H2 := Lib.hid hh; clear hh
        have HZ2 : Hid (refMatch r t a = false) := by show _ = _; rw [HRM.out, HK.out, HZ.out, H2.out]; simp
        go_wp2_with (go_at_call 62; refine HC.out.mono ?_; rintro e w4 ⟨rfl, hx4⟩; rw [H2.out])
        go_ret
        rw [HZ2.out]; exact ⟨rfl, (ex3.trans hx).trans hx4⟩
      · have H2 := Lib.hid hh; clear hh
        go_wp2_with (go_at_call 62; refine HC.out.mono ?_; rintro e w4 ⟨rfl, hx4⟩; rw [H2.out])
        go_roundw
        case rel => exact ⟨k + 1, by omega, by go_num, by rw [HK.out, HZ.out, H2.out, Bool.true_and], hx.trans hx4⟩
        case measure => simp [intOf]; omega
    · have HZ : Hid (refMatch r t a = (!(s && decide (0 < (a : Int) - n1)) && !(f && decide ((a : Int) - n1 + L < n)))) := by
        show _ = _
        rw [HRM.out, HK.out, drop_end HWL.out hlt]; simp [winAt]
      clear HK
      have exx := ex3.trans hx
      by_cases u1 : 0 < (a : Int) - n1
      · have u1' : decide (0 < (a : Int) - n1) = true := by simpa using u1
        by_cases u2 : (a : Int) - n1 + L < n
        · have u2' : decide ((a : Int) - n1 + L < n) = true := by simpa using u2
          cases s <;> cases f <;> (go_wp2; go_ret; rw [HZ.out]; exact ⟨by first | (simp [u1, u2]; done) | (simp [u1, u2]; omega), exx⟩)
        · have u2' : decide ((a : Int) - n1 + L < n) = false := by simpa using u2
          cases s <;> cases f <;> (go_wp2; go_ret; rw [HZ.out]; exact ⟨by first | (simp [u1]; done) | (simp [u1]; omega), exx⟩)
      · have u1' : decide (0 < (a : Int) - n1) = false := by simpa using u1
        by_cases u2 : (a : Int) - n1 + L < n
        · have u2' : decide ((a : Int) - n1 + L < n) = true := by simpa using u2
          cases s <;> cases f <;> (go_wp2; go_ret; rw [HZ.out]; exact ⟨by first | (simp [u2]; done) | (simp [u2]; omega), exx⟩)
        · have u2' : decide ((a : Int) - n1 + L < n) = false := by simpa using u2
          cases s <;> cases f <;> (go_wp2; go_ret; rw [HZ.out]; exact ⟨by first | (simp; done) | (simp; omega), exx⟩)
end

end Go.Proofs.Ytfdkbhbnldcbmaa
