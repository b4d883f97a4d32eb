/- Walk: the document's Masks. -/
import Derived.Test.YtfdkbhbnldcbmaaW52
import Derived.StillTailTactics
namespace Go.Proofs.Ytfdkbhbnldcbmaa
open Go.RowKit
set_option linter.unusedVariables false
set_option linter.unusedSimpArgs false

theorem within_drop {n w : List (List Sp)} {j : Nat} {s s' : List Sp} (hn : n[j]? = some s') (hw : w[j]? = some s) : within (n.drop j) (w.drop j) = (subSet s' s && within (n.drop (j + 1)) (w.drop (j + 1))) := by
  rw [drop_cons hn, drop_cons hw]; rfl
theorem rev_get {α : Type} {l : List α} {j : Nat} (hj : j < l.length) : l.reverse[j]? = l[l.length - (j + 1)]? := by
  rw [List.getElem?_reverse hj]; congr 1; omega

set_option maxRecDepth 100000 in
set_option maxHeartbeats 16000000 in
theorem refMasks_any (s f : Bool) (A1 : Option Addr) (n1 c1 : Nat) (A2 : Option Addr) (n2 c2 : Nat) (A3 : Option Addr) (n3 c3 : Nat) (A4 : Option Addr) (n4 c4 : Nat) (q : Int) (a : Rule)
    (s' f' : Bool) (B1 : Option Addr) (m1 d1 : Nat) (B2 : Option Addr) (m2 d2 : Nat) (B3 : Option Addr) (m3 d3 : Nat) (B4 : Option Addr) (m4 d4 : Nat) (q' : Int) (b : Rule) (w : World)
    (ha : RuleV w s f A1 n1 c1 A2 n2 c2 A3 n3 c3 A4 n4 c4 q a) (hb : RuleV w s' f' B1 m1 d1 B2 m2 d2 B3 m3 d3 B4 m4 d4 q' b) (oka : OkRule a) (okb : OkRule b) :
    Calls Try.prog 78 #[.agg #[.bool s, .bool f, .slice A1 n1 c1, .slice A2 n2 c2, .slice A3 n3 c3, .slice A4 n4 c4, .int .i64 q], .agg #[.bool s', .bool f', .slice B1 m1 d1, .slice B2 m2 d2, .slice B3 m3 d3, .slice B4 m4 d4, .int .i64 q']] w
      fun e w' => e = .returned (.bool (masksB a b)) ∧ Ext w w' := by
  obtain ⟨w2, hw2⟩ : ∃ w2 : World, w2 = (w.alloc (.cells #[.bool s, .bool f, .slice A1 n1 c1, .slice A2 n2 c2, .slice A3 n3 c3, .slice A4 n4 c4, .int .i64 q] 25)).alloc (.cells #[.bool s', .bool f', .slice B1 m1 d1, .slice B2 m2 d2, .slice B3 m3 d3, .slice B4 m4 d4, .int .i64 q'] 25) := ⟨_, rfl⟩
  have e2 : Ext w w2 := by rw [hw2]; exact ((Ext.refl w).alloc _).alloc _
  have RA : RuleAt w2 w.heap.size 0 s f A1 n1 c1 A2 n2 c2 A3 n3 c3 A4 n4 c4 q := by rw [hw2]; exact (RuleAt.new w _).ext ((Ext.refl _).alloc _)
  have RB : RuleAt w2 (w.heap.size + 1) 0 s' f' B1 m1 d1 B2 m2 d2 B3 m3 d3 B4 m4 d4 q' := by
    have := RuleAt.new (s := s') (f := f') (A1 := B1) (n1 := m1) (c1 := d1) (A2 := B2) (n2 := m2) (c2 := d2) (A3 := B3) (n3 := m3) (c3 := d3) (A4 := B4) (n4 := m4) (c4 := d4) (q := q') (w.alloc (.cells #[.bool s, .bool f, .slice A1 n1 c1, .slice A2 n2 c2, .slice A3 n3 c3, .slice A4 n4 c4, .int .i64 q] 25)) 25
    rw [World.size_alloc] at this
    rw [hw2]; exact this
  have hs2 : w.heap.size + 2 ≤ w2.heap.size := by rw [hw2]; simp only [World.size_alloc]; omega
  have HA := Lib.hid RA.box; have HB := Lib.hid RB.box
  obtain ⟨i0, i1, i2, i3, i4, _, _⟩ := RA.box
  obtain ⟨j0, j1, j2, j3, j4, _, _⟩ := RB.box
  have a1 := ha.before.len; have a2 := ha.source.len; have a3 := ha.after.len
  have b1 := hb.before.len; have b2 := hb.source.len; have b3 := hb.after.len
  have la1 := oka.lb; have la2 := oka.ls; have la3 := oka.la
  have lb1 := okb.lb; have lb2 := okb.ls; have lb3 := okb.la
  rw [a1] at la1; rw [a2] at la2; rw [a3] at la3; rw [b1] at lb1; rw [b2] at lb2; rw [b3] at lb3
  have L1 := Lib.hid a1; have L2 := Lib.hid a2; have L3 := Lib.hid a3; have M1 := Lib.hid b1; have M2 := Lib.hid b2; have M3 := Lib.hid b3
  have HM : Hid (masksB a b = (within b.before.reverse a.before.reverse && within (b.source ++ b.after) (a.source ++ a.after) && (!s || (s' && decide (n1 = m1))) && (!f || (f' && decide (n2 + n3 = m2 + m3))))) := Lib.hid (by
    unfold masksB; rw [ha.start, hb.start, ha.fin, hb.fin, a1, a2, a3, b1, b2, b3])
  have HSub := Lib.hid (fun W P n c x Q m d y (hx : Spans W P n c x) (hy : Spans W Q m d y) (gx : Good x) (gy : Good y) => refSub_any P n c x Q m d y W hx hy gx gy)
  have GA1 := Lib.hid (fun (x : List Sp) (hx : x ∈ a.before) => good_of (oka.b x hx)); have GB1 := Lib.hid (fun (x : List Sp) (hx : x ∈ b.before) => good_of (okb.b x hx))
  have GA2 := Lib.hid (fun (x : List Sp) (hx : x ∈ a.source ++ a.after) => good_of ((List.mem_append.1 hx).elim (oka.s x) (oka.a x)))
  have GB2 := Lib.hid (fun (x : List Sp) (hx : x ∈ b.source ++ b.after) => good_of ((List.mem_append.1 hx).elim (okb.s x) (okb.a x)))
  have VA := Lib.hid ha; have VB := Lib.hid hb
  have ca := ha.before.cap; have cb := hb.before.cap
  clear a1 a2 a3 b1 b2 b3 oka okb
  by_cases hlen : m1 < n1
  · have HV : Hid (masksB a b = false) := Lib.hid (by
      rw [HM.out, within_short (by rw [List.length_reverse, List.length_reverse, L1.out, M1.out]; exact hlen)]; rfl)
    clear hw2
    go_enter Try.func78, Try.ntmps78
    go_wp2
    go_ret
    rw [HV.out]
    exact ⟨rfl, ((Ext.refl w).alloc _).alloc _⟩
  have hle : n1 ≤ m1 := by omega
  have HW2 := Lib.hid hw2
  clear hw2
  go_enter Try.func78, Try.ntmps78
  go_upto_region 4 with fail
  rw [← HW2.out]
  clear HW2 hlen
  go_loopw [5] (fun i wr => ∃ j : Nat, j ≤ n1 ∧ i = .int .i64 ((j : Int) + 1) ∧ Hid (within b.before.reverse a.before.reverse = within (b.before.reverse.drop j) (a.before.reverse.drop j)) ∧ Ext w2 wr) (fun i _ => n1 + 1 - (intOf i).toNat)
  case atStart => exact ⟨0, by omega, by go_num, Lib.hid rfl, Ext.refl _⟩
  case round =>
    obtain ⟨j, hj, rfl, HK, hx⟩ := hrel
    have x2 := hx.cell i2; have y2 := hx.cell j2
    have hwl : w.heap.size + 2 ≤ wr.heap.size := Nat.le_trans hs2 hx.size
    by_cases hlt : j < n1
    · obtain ⟨ka, hka⟩ : ∃ ka : Nat, ka = n1 - (j + 1) := ⟨_, rfl⟩
      obtain ⟨kb, hkb⟩ : ∃ kb : Nat, kb = m1 - (j + 1) := ⟨_, rfl⟩
      obtain ⟨S, hS⟩ := (VA.out.before).idx (k := ka) (by omega)
      obtain ⟨T, hT⟩ := (VB.out.before).idx (k := kb) (by omega)
      obtain ⟨ab, ao, A', an, ac, rfl, ⟨_, ane⟩, hac, hsa⟩ := (VA.out.before.ext (e2.trans hx)).sl hS
      obtain ⟨bb, bo, B', bn, bc, rfl, ⟨_, bne⟩, hbc, hsb⟩ := (VB.out.before.ext (e2.trans hx)).sl hT
      have hSr : a.before.reverse[j]? = some S := by rw [rev_get (by rw [L1.out]; omega), L1.out, ← hka]; exact hS
      have hTr : b.before.reverse[j]? = some T := by rw [rev_get (by rw [M1.out]; omega), M1.out, ← hkb]; exact hT
      have HW := Lib.hid (within_drop hTr hSr)
      have hwa : IntKind.i64.wrap ((n1 : Int) - ((j : Int) + 1)) = (ka : Int) := by rw [IntWalk.i64_in _ (by omega)]; omega
      have hwb : IntKind.i64.wrap ((m1 : Int) - ((j : Int) + 1)) = (kb : Int) := by rw [IntWalk.i64_in _ (by omega)]; omega
      have hka2 : (ka : Int) < (n1 : Int) := by omega
      have hkb2 : (kb : Int) < (m1 : Int) := by omega
      have HC := Lib.hid (fun (e : Ext wr wr.drew) => HSub.out wr.drew B' bn bc T A' an ac S (SlR.ext (keep_span _) hsb e) (SlR.ext (keep_span _) hsa e) (GB1.out T (List.mem_of_getElem? hT)) (GA1.out S (List.mem_of_getElem? hS)))
      clear hS hT hSr hTr hsa hsb hka hkb
      have hj1 : (j : Int) + 1 ≤ (n1 : Int) := by omega
      go_wp2_with fail
      go_still_tail 18, (by kernel_rfl)
      change wpList _ _ _ _ _ wr.drew
      clear hwa hwb hac hbc
      cases hsub : subSet T S
      · have HS2 := Lib.hid hsub; clear hsub
        have HV : Hid (masksB a b = false) := Lib.hid (by rw [HM.out, HK.out, HW.out, HS2.out]; rfl)
        go_wp2_with (go_at_call 64; refine (HC.out (Ext.refl _).drew).mono ?_; rintro e w4 ⟨rfl, x4⟩; rw [HS2.out])
        go_ret
        rw [HV.out]
        exact ⟨rfl, e2.trans (hx.drew.trans x4)⟩
      · have HS2 := Lib.hid hsub; clear hsub
        have HK2 : Hid (within b.before.reverse a.before.reverse = within (b.before.reverse.drop (j + 1)) (a.before.reverse.drop (j + 1))) := Lib.hid (by rw [HK.out, HW.out, HS2.out, Bool.true_and])
        go_wp2_with (go_at_call 64; refine (HC.out (Ext.refl _).drew).mono ?_; rintro e w4 ⟨rfl, x4⟩; rw [HS2.out])
        go_roundw
        case rel => exact ⟨j + 1, by omega, by go_num, HK2, hx.drew.trans x4⟩
        case measure => simp [intOf]; omega
    · have hjn : j = n1 := by omega
      subst hjn
      have HP1 : Hid (within b.before.reverse a.before.reverse = true) := Lib.hid (by
        rw [HK.out, List.drop_of_length_le (l := a.before.reverse) (by rw [List.length_reverse, L1.out]; exact Nat.le_refl _), within_nil])
      have hj1 : decide ((j : Int) + 1 ≤ (j : Int)) = false := by simp; omega
      clear HK
      go_upto_region 8 with fail
      obtain ⟨w5, rfl⟩ : ∃ w5 : World, w5 = wr := ⟨_, rfl⟩
      clear hj1 x2 y2
      have kx := (keep_setB w.heap.size).x
      obtain ⟨_, _, _, t3, t4, _, _⟩ := HA.out
      have i3 := hx.cell t3; have i4 := hx.cell t4
      have oX := OwnR.empty (rSl rSpan 2 (fun b => b < w.heap.size)) 67 1 w5.heap.size w5.drew (Nat.le_refl _)
      have fX := ((Ext.refl w5).drew).alloc (.cells #[] 67)
      have EX := (e2.trans hx).trans fX
      go_region_held3 (fun w' => w'.cell? ⟨w.heap.size, 3, none⟩ = some (.slice A2 n2 c2) ∧ w'.cell? ⟨w.heap.size, 4, none⟩ = some (.slice A3 n3 c3))
        (first | go_keep | exact ⟨p3, p4⟩ | exact ⟨q3, q4⟩)
        (first
          | (refine step_appS T_set (by omega) rfl (.tmp 43) (.tmp 45) rfl rfl oX rfl ((sets_lt VA.out.source).extX kx EX) (fun _ _ h => h) (one_sl _ _ _) (keep_setB w.heap.size) (fun g hg hlt => by have := (oX.lt g hg).1; omega) ?_ fX.size ?_
             · simp; omega
             intro v1 w1 oo1 g1 hat1
             have F1 := fX.app g1 oX
             simp only [List.nil_append] at oo1
             have p3 := F1.cell i3; have p4 := F1.cell i4
             have E1 := (e2.trans hx).trans F1)
          | (refine step_appS T_set (by omega) rfl (.tmp 46) (.tmp 48) rfl rfl oo1 rfl ((sets_lt VA.out.after).extX kx E1) (fun _ _ h => h) (one_sl _ _ _) (keep_setB w.heap.size) (fun g hg hlt => by have := (oo1.lt g hg).1; omega) ?_ F1.size ?_
             · rw [L2.out]; omega
             intro v2 w2' oo2 g2 hat2
             have F2 := F1.app g2 oo1
             have q3 := F2.cell i3; have q4 := F2.cell i4))
      have eX := hx.trans F2
      obtain ⟨AX, cX, rfl, sX⟩ := oo2.top
      have HX := Lib.hid (sets_top sX)
      clear p3 p4 q3 q4 oo1 oo2 sX g1 g2 hat1 hat2 F1 oX fX EX E1
      have hwl6 : w.heap.size + 2 ≤ w2'.heap.size := Nat.le_trans hs2 eX.size
      generalize w2' = w6 at *
      obtain ⟨_, _, _, t5, t6, _, _⟩ := HB.out
      have j3 := eX.cell t5; have j4 := eX.cell t6
      clear t3 t4 t5 t6 i3 i4
      go_upto_region 9 with fail
      have oY := OwnR.empty (rSl rSpan 2 (fun b => b < w.heap.size)) 67 1 w6.heap.size w6.drew (Nat.le_refl _)
      have fY := ((Ext.refl w6).drew).alloc (.cells #[] 67)
      have EY := (e2.trans eX).trans fY
      go_region_held3 (fun w' => w'.cell? ⟨w.heap.size + 1, 3, none⟩ = some (.slice B2 m2 d2) ∧ w'.cell? ⟨w.heap.size + 1, 4, none⟩ = some (.slice B3 m3 d3))
        (first | go_keep | exact ⟨p3, p4⟩ | exact ⟨q3, q4⟩)
        (first
          | (refine step_appS T_set (by omega) rfl (.tmp 50) (.tmp 52) rfl rfl oY rfl ((sets_lt VB.out.source).extX kx EY) (fun _ _ h => h) (one_sl _ _ _) (keep_setB w.heap.size) (fun g hg hlt => by have := (oY.lt g hg).1; omega) ?_ fY.size ?_
             · simp; omega
             intro v1 w1 oo1 g1 hat1
             have F1 := fY.app g1 oY
             simp only [List.nil_append] at oo1
             have p3 := F1.cell j3; have p4 := F1.cell j4
             have E1 := (e2.trans eX).trans F1)
          | (refine step_appS T_set (by omega) rfl (.tmp 53) (.tmp 55) rfl rfl oo1 rfl ((sets_lt VB.out.after).extX kx E1) (fun _ _ h => h) (one_sl _ _ _) (keep_setB w.heap.size) (fun g hg hlt => by have := (oo1.lt g hg).1; omega) ?_ F1.size ?_
             · rw [M2.out]; omega
             intro v2 w2' oo2 g2 hat2
             have F2 := F1.app g2 oo1
             have q3 := F2.cell j3; have q4 := F2.cell j4))
      have eY := eX.trans F2
      obtain ⟨AY, cY, rfl, sY⟩ := oo2.top
      have HY := Lib.hid (sets_top sY)
      have x6 := F2
      clear p3 p4 q3 q4 oo1 oo2 sY g1 g2 hat1 hat2 F1 oY fY EY E1
      generalize w2' = w7 at *
      have sx := Sets.ext HX.out x6
      have sy := HY.out
      have HLX : Hid ((a.source ++ a.after).length = n2 + n3) := Lib.hid (by rw [List.length_append, L2.out, L3.out])
      have HLY : Hid ((b.source ++ b.after).length = m2 + m3) := Lib.hid (by rw [List.length_append, M2.out, M3.out])
      rw [HLX.out] at sx
      rw [HLY.out] at sy
      rw [L2.out, L3.out, HLY.out]
      obtain ⟨nx, hnx⟩ : ∃ nx : Nat, nx = n2 + n3 := ⟨_, rfl⟩
      obtain ⟨my, hmy⟩ : ∃ my : Nat, my = m2 + m3 := ⟨_, rfl⟩
      rw [← hnx] at sx HLX HM ⊢
      rw [← hmy] at sy HLY HM ⊢
      have hnx40 : nx ≤ 40 := by omega
      have hmy40 : my ≤ 40 := by omega
      have SX := Lib.hid sx; have SY := Lib.hid sy
      have cx := sx.cap; have cy := sy.cap
      clear hnx hmy sx sy HX HY x6 L1 L2 L3 M1 M2 M3 VA VB kx
      generalize a.source ++ a.after = xs at *
      generalize b.source ++ b.after = ys at *
      obtain ⟨z0, z1, z2, _, _, _, _⟩ := HA.out
      obtain ⟨u0, u1, u2, _, _, _, _⟩ := HB.out
      have hwl7 : w.heap.size + 2 ≤ w7.heap.size := Nat.le_trans hs2 eY.size
      by_cases hlen2 : my < nx
      · have HV : Hid (masksB a b = false) := Lib.hid (by
          rw [HM.out, within_short (n := ys) (w := xs) (by rw [HLX.out, HLY.out]; exact hlen2)]; simp)
        go_wp2
        go_ret
        rw [HV.out]
        exact ⟨rfl, e2.trans eY⟩
      have hle2 : nx ≤ my := by omega
      go_upto_region 13 with fail
      clear hlen2
      go_loopw [64] (fun i wr => ∃ k : Nat, k ≤ nx ∧ i = .int .i64 k ∧ Hid (within ys xs = within (ys.drop k) (xs.drop k)) ∧ Ext w7 wr) (fun i _ => nx - (intOf i).toNat)
      case atStart => exact ⟨0, by omega, rfl, Lib.hid rfl, Ext.refl _⟩
      case round =>
        obtain ⟨k, hk, rfl, HQ, hx7⟩ := hrel
        by_cases hlt7 : k < nx
        · obtain ⟨S, hS⟩ := SX.out.idx hlt7
          obtain ⟨T, hT⟩ := SY.out.idx (k := k) (by omega)
          obtain ⟨ab, ao, A', an, ac, rfl, ⟨_, ane⟩, hac, hsa⟩ := (SX.out.ext hx7).sl hS
          obtain ⟨bb, bo, B', bn, bc, rfl, ⟨_, bne⟩, hbc, hsb⟩ := (SY.out.ext hx7).sl hT
          have HW := Lib.hid (within_drop hT hS)
          have hka2 : (k : Int) < (nx : Int) := by omega
          have hkb2 : (k : Int) < (my : Int) := by omega
          have HC := Lib.hid (fun (e : Ext wr wr.drew) => HSub.out wr.drew B' bn bc T A' an ac S (SlR.ext (keep_span _) hsb e) (SlR.ext (keep_span _) hsa e) (GB2.out T (List.mem_of_getElem? hT)) (GA2.out S (List.mem_of_getElem? hS)))
          clear hS hT hsa hsb
          go_wp2_with fail
          go_still_tail 8, (by kernel_rfl)
          change wpList _ _ _ _ _ wr.drew
          clear hac hbc
          cases hsub : subSet T S
          · have HS2 := Lib.hid hsub; clear hsub
            have HV : Hid (masksB a b = false) := Lib.hid (by rw [HM.out, HQ.out, HW.out, HS2.out]; simp)
            go_wp2_with (go_at_call 64; refine (HC.out (Ext.refl _).drew).mono ?_; rintro e w8 ⟨rfl, x8⟩; rw [HS2.out])
            go_ret
            rw [HV.out]
            exact ⟨rfl, e2.trans (eY.trans (hx7.drew.trans x8))⟩
          · have HS2 := Lib.hid hsub; clear hsub
            have HQ2 : Hid (within ys xs = within (ys.drop (k + 1)) (xs.drop (k + 1))) := Lib.hid (by rw [HQ.out, HW.out, HS2.out, Bool.true_and])
            go_wp2_with (go_at_call 64; refine (HC.out (Ext.refl _).drew).mono ?_; rintro e w8 ⟨rfl, x8⟩; rw [HS2.out])
            go_roundw
            case rel => exact ⟨k + 1, by omega, by go_num, HQ2, hx7.drew.trans x8⟩
            case measure => simp [intOf]; omega
        · have HP2 : Hid (within ys xs = true) := Lib.hid (by
            rw [HQ.out, List.drop_of_length_le (l := xs) (by rw [HLX.out]; omega), within_nil])
          have HM2 : Hid (masksB a b = ((!s || (s' && decide (j = m1))) && (!f || (f' && decide (nx = my))))) := Lib.hid (by rw [HM.out, HP1.out, HP2.out]; rfl)
          have f7 := eY.trans hx7
          have i0 := f7.cell z0; have i1 := f7.cell z1; have i2 := f7.cell z2
          have j0 := f7.cell u0; have j1 := f7.cell u1; have j2 := f7.cell u2
          clear z0 z1 z2 u0 u1 u2 HQ HM HP2 HA HB
          have hp3 : (s = false) ∨ (s = true ∧ s' = true ∧ j = m1) ∨ (s = true ∧ s' = false) ∨ (s = true ∧ s' = true ∧ j ≠ m1) := by
            cases s <;> cases s' <;> by_cases hq : j = m1 <;> simp [hq]
          have hp4 : (f = false) ∨ (f = true ∧ f' = false) ∨ (f = true ∧ f' = true ∧ nx = my) ∨ (f = true ∧ f' = true ∧ nx ≠ my) := by
            cases f <;> cases f' <;> by_cases hq : nx = my <;> simp [hq]
          rcases hp3 with rfl | ⟨rfl, rfl, rfl⟩ | ⟨rfl, rfl⟩ | ⟨rfl, rfl, hne3⟩
          · rcases hp4 with rfl | ⟨rfl, rfl⟩ | ⟨rfl, rfl, rfl⟩ | ⟨rfl, rfl, hne4⟩
            · have HV : Hid (masksB a b = true) := Lib.hid (by rw [HM2.out]; rfl)
              go_wp2
              go_ret
              rw [HV.out]
              exact ⟨rfl, e2.trans (eY.trans hx7)⟩
            · have HV : Hid (masksB a b = false) := Lib.hid (by rw [HM2.out]; rfl)
              go_wp2
              go_ret
              rw [HV.out]
              exact ⟨rfl, e2.trans (eY.trans hx7)⟩
            · have HV : Hid (masksB a b = true) := Lib.hid (by rw [HM2.out]; simp)
              go_wp2
              go_ret
              rw [HV.out]
              exact ⟨rfl, e2.trans (eY.trans hx7)⟩
            · have HV : Hid (masksB a b = false) := Lib.hid (by rw [HM2.out, decide_eq_false hne4]; rfl)
              have t4 : ((nx : Int) == (my : Int)) = false := by simp; omega
              go_wp2
              go_ret
              rw [HV.out]
              exact ⟨rfl, e2.trans (eY.trans hx7)⟩
          · rcases hp4 with rfl | ⟨rfl, rfl⟩ | ⟨rfl, rfl, rfl⟩ | ⟨rfl, rfl, hne4⟩
            · have HV : Hid (masksB a b = true) := Lib.hid (by rw [HM2.out]; simp)
              go_wp2
              go_ret
              rw [HV.out]
              exact ⟨rfl, e2.trans (eY.trans hx7)⟩
            · have HV : Hid (masksB a b = false) := Lib.hid (by rw [HM2.out]; simp)
              go_wp2
              go_ret
              rw [HV.out]
              exact ⟨rfl, e2.trans (eY.trans hx7)⟩
            · have HV : Hid (masksB a b = true) := Lib.hid (by rw [HM2.out]; simp)
              go_wp2
              go_ret
              rw [HV.out]
              exact ⟨rfl, e2.trans (eY.trans hx7)⟩
            · have HV : Hid (masksB a b = false) := Lib.hid (by rw [HM2.out, decide_eq_false hne4]; simp)
              have t4 : ((nx : Int) == (my : Int)) = false := by simp; omega
              go_wp2
              go_ret
              rw [HV.out]
              exact ⟨rfl, e2.trans (eY.trans hx7)⟩
          · have HV : Hid (masksB a b = false) := Lib.hid (by rw [HM2.out]; rfl)
            go_wp2
            go_ret
            rw [HV.out]
            exact ⟨rfl, e2.trans (eY.trans hx7)⟩
          · have HV : Hid (masksB a b = false) := Lib.hid (by rw [HM2.out, decide_eq_false hne3]; rfl)
            have t3 : ((j : Int) == (m1 : Int)) = false := by simp; omega
            go_wp2
            go_ret
            rw [HV.out]
            exact ⟨rfl, e2.trans (eY.trans hx7)⟩

end Go.Proofs.Ytfdkbhbnldcbmaa
