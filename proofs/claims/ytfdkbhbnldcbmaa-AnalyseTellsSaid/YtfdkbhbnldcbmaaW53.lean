/- Walk: the document's Steady. -/
import Derived.Test.YtfdkbhbnldcbmaaW52
namespace Go.Proofs.Ytfdkbhbnldcbmaa
open Go.RowKit
set_option linter.unusedVariables false
set_option linter.unusedSimpArgs false

def okS (l : List Rule) (r : Rule) : Bool := decide (r.cursor = r.target.length) && steadyR l r
theorem steadyB_all (l : List Rule) : steadyB l = l.all fun r => okS l r := by
  unfold steadyB sureR okS
  rw [Bool.eq_iff_iff, Bool.and_eq_true, List.all_eq_true, List.all_eq_true, List.all_eq_true]
  constructor
  · rintro ⟨h1, h2⟩ r hr
    rw [h1 r hr, h2 r hr]; rfl
  · intro h
    exact ⟨fun r hr => (Bool.and_eq_true_iff.1 (h r hr)).1, fun r hr => (Bool.and_eq_true_iff.1 (h r hr)).2⟩
theorem has_any (l : List Rule) (x : Int) : (l.any fun q => has (set0 q) x) = has (allF l) x := by
  unfold allF has
  rw [List.any_flatMap]

set_option maxRecDepth 100000 in
set_option maxHeartbeats 8000000 in
theorem refSteady_any (A : Option Addr) (n c : Nat) (l : List Rule) (w : World) (h : Rules w A n c l) (hr : (wrongRules l).1 = 0) :
    Calls Try.prog 80 #[.slice A n c] w fun e w' => e = .returned (.tuple #[.bool (steadyV l), .agg #[.int .i64 (ofE (allF l)), .int .i64 0]]) ∧ Ext w w' := by
  obtain ⟨hr0, hl2, hok⟩ := wrongRules_zero hr
  have hcap := h.cap
  have hn2 : n ≤ 200 := by rw [← h.len]; exact hl2
  have hlen := Lib.hid h.len
  have OK := Lib.hid hok
  have HR := Lib.hid hr0
  have e1 := (Ext.refl w).alloc (.cells #[.int .i64 0, .int .i64 0] 38)
  have k0 : (w.alloc (.cells #[.int .i64 0, .int .i64 0] 38)).cell? ⟨w.heap.size, 0, none⟩ = some (.int .i64 0) := by simp
  have k1 : (w.alloc (.cells #[.int .i64 0, .int .i64 0] 38)).cell? ⟨w.heap.size, 1, none⟩ = some (.int .i64 0) := by simp
  have wb := Wr.new w #[.int .i64 0, .int .i64 0] 38
  have HC := Lib.hid (refWrongs_any A n c l _ (h.ext e1))
  have HF := Lib.hid (fun W (e : Ext w W) => refFirsts_any A n c l W (h.ext e) OK.out hn2)
  clear hr hr0 hl2
  by_cases hz : ofE (allF l) = 0
  · have HG := Lib.hid (firsts_good hok hz)
    have HHS : Hid (∀ x, (l.any fun q => has (set0 q) x) = has (ofV (allF l)) x) := Lib.hid (fun x => by
      have hset := ofS_set (allF_ok OK.out)
      have hb : (allF l).any spBad = false := by rw [List.any_eq_false]; intro x hx; simpa using okSp_iff.2 (allF_ok OK.out x hx)
      have hv : ofV (allF l) = ofS (allF l) := by
        by_cases hg : 200 < (ofS (allF l)).length
        · rw [(ofE_big hb hg).1] at hz; simp at hz
        · exact (ofE_ok hb hg).2
      rw [has_any, hv, hset.2 x])
    have HZ := Lib.hid hz
    have HVF : Hid (∀ r ∈ l, okS l r = false → steadyV l = false) := Lib.hid (fun r hr hs => by
      have : (l.all fun r => okS l r) = false := by rw [List.all_eq_false]; exact ⟨r, hr, by rw [hs]; simp⟩
      unfold steadyV; rw [steadyB_all, this, Bool.and_false])
    have HVT : Hid ((l.all fun r => okS l r) = true → steadyV l = true) := Lib.hid (fun h => by unfold steadyV; rw [steadyB_all, h, hz]; rfl)
    clear hz hok
    go_enter Try.func80, Try.ntmps80
    go_wp2_with fail
    generalize w.alloc (.cells #[.int .i64 0, .int .i64 0] 38) = w1 at *
    go_wp2_with (first
      | (go_at_call 32; refine HC.out.mono ?_; rintro e w2 ⟨rfl, hx2⟩; rw [HR.out]; have x2a := hx2.alloc (.cells #[.int .i64 0, .int .i64 0] 38))
      | (go_at_call 79; refine (HF.out _ (e1.trans x2a)).mono ?_; rintro e w3 ⟨⟨A3, c3, rfl, s3⟩, x3⟩; rw [HZ.out]))
    have e13 := x2a.trans x3
    have ew := e1.trans e13
    have K0 := Lib.hid (e13.cell k0); have K1 := Lib.hid (e13.cell k1); have KZ := Lib.hid (wb.ext e13)
    have hHw : w.heap.size ≤ w.heap.size := Nat.le_refl _
    clear k0 k1 wb HC HF s3
    go_loopw [30] (fun i wr => ∃ k : Nat, k ≤ n ∧ i = .int .i64 k ∧ Hid ((l.all fun r => okS l r) = ((l.drop k).all fun r => okS l r)) ∧ Ext w3 wr) (fun i _ => n - (intOf i).toNat)
    case atStart => exact ⟨0, by omega, rfl, Lib.hid rfl, Ext.refl _⟩
    case round =>
      obtain ⟨k, hk, rfl, HK, hx⟩ := hrel
      by_cases hlt : k < n
      · obtain ⟨r, hrr⟩ := h.idx hlt
        have hrm := List.mem_of_getElem? hrr
        have ok := OK.out r hrm
        obtain ⟨b, off, s, f, A1, n1, c1, A2, n2, c2, A3', n3, c3', A4, n4, c4, q, rfl, ⟨_, hne⟩, hv, j0, j1, j2, j3, j4, j5, j6⟩ := (h.ext (ew.trans hx)).rule hrr
        have ea := hx.alloc (.cells #[.bool s, .bool f, .slice A1 n1 c1, .slice A2 n2 c2, .slice A3' n3 c3', .slice A4 n4 c4, .int .i64 q] 25)
        have h1 : r.source.length = n2 := hv.source.len
        have h2 : r.after.length = n3 := hv.after.len
        have h3 : r.fin = f := hv.fin
        have h4 : r.target.length = n4 := hv.target.len
        have h5 : r.cursor = q := hv.cursor
        have h6 := ok.s0
        have h7 := ok.c1
        rw [h1] at h6
        rw [h4, h5] at h7
        have HA := Lib.hid (fun (hb : okS l r = false) => HVF.out r hrm hb)
        have HRR : Hid (okS l r = (decide (q = (n4 : Int)) && (decide (n2 = 1) && decide (n3 = 0) && !f && !(r.target.any fun x => has (ofV (allF l)) x)))) := Lib.hid (by unfold okS steadyR; rw [h1, h2, h3, h4, h5])
        have HD := Lib.hid (drop_cons hrr)
        have htg := hv.target
        have HTL := Lib.hid h4
        clear hrr hrm hv ok h1 h2 h3 h4 h5
        by_cases a1 : n2 = 1
        · subst a1
          by_cases a2 : n3 = 0
          · subst a2
            cases f
            · by_cases a4 : q < (n4 : Int)
              · have t4 : decide (q < (n4 : Int)) = true := by simpa using a4
                have HVF2 := Lib.hid (HA.out (by rw [HRR.out, decide_eq_false (by omega)]; rfl))
                clear a4
                have y0 := hx.cell K0.out; have y1 := hx.cell K1.out; have yz := (KZ.out.ext hx).2; have yl := KZ.out.lt hx
                go_wp2
                rw [HVF2.out, HZ.out]
                refine bodyPost_ret (v := .tuple #[.bool false, .agg #[.int .i64 0, .int .i64 0]]) (by simp [results, Try.results80, go_sem, y0, y1, yl]) rfl ?_
                exact ⟨rfl, by repeat (first | exact ew.trans hx | refine Ext.drew ?_ | refine ext_set ?_ (Nat.le_refl _) _ _ | refine Ext.alloc ?_ _)⟩
              · have t4 : decide (q < (n4 : Int)) = false := by simpa using a4
                have hqn : q = (n4 : Int) := by omega
                have HR2 : Hid (okS l r = !(r.target.any fun x => has (ofV (allF l)) x)) := Lib.hid (by rw [HRR.out, decide_eq_true hqn]; rfl)
                have HK2 := Lib.hid (fun (hb : okS l r = true) => (by rw [HK.out, HD.out, List.all_cons, hb, Bool.true_and] : (l.all fun r => okS l r) = ((l.drop (k + 1)).all fun r => okS l r)))
                clear a4 hqn HRR
                go_upto_region 13 with fail
                clear j0 j1 j2 j3 j4 j5 j6 t4
                have htg5 := Runes.ext htg ((Ext.refl wr).alloc (.cells #[.bool s, .bool false, .slice A1 n1 c1, .slice A2 1 c2, .slice A3' 0 c3', .slice A4 n4 c4, .int .i64 q] 25))
                generalize hw5 : wr.alloc (.cells #[.bool s, .bool false, .slice A1 n1 c1, .slice A2 1 c2, .slice A3' 0 c3', .slice A4 n4 c4, .int .i64 q] 25) = w5 at *
                clear hw5 htg hne
                have hn4c := htg5.cap
                have hn4m := htg5.max
                unfold maxLen at hn4m
                go_loopw [60] (fun i wr => ∃ j : Nat, j ≤ n4 ∧ i = .int .i64 j ∧ Hid ((r.target.any fun x => has (ofV (allF l)) x) = ((r.target.drop j).any fun x => has (ofV (allF l)) x)) ∧ Ext w5 wr) (fun i _ => n4 - (intOf i).toNat)
                case atStart => exact ⟨0, by omega, rfl, Lib.hid rfl, Ext.refl _⟩
                case round =>
                  obtain ⟨j, hj, rfl, HJ, hx5⟩ := hrel
                  by_cases hlt2 : j < n4
                  · obtain ⟨x, hxx⟩ := htg5.idx hlt2
                    obtain ⟨b4, off4, rfl, _, hc4, _, _⟩ := (htg5.ext hx5).rune hxx
                    have HD2 := Lib.hid (drop_cons hxx)
                    clear hxx
                    obtain ⟨w6, hw6⟩ : ∃ w6 : World, w6 = wr := ⟨_, rfl⟩
                    have e6 : Ext w3 w6 := by rw [hw6]; exact ea.trans hx5
                    have e56 : Ext w5 w6 := by rw [hw6]; exact hx5
                    go_upto_region 16 with fail
                    rw [← hw6]
                    clear hw6 hc4 hx5
                    go_loopw [66] (fun i wr => ∃ g : Nat, g ≤ n ∧ i = .int .i64 g ∧ Hid ((l.any fun q => has (set0 q) x) = ((l.drop g).any fun q => has (set0 q) x)) ∧ Ext w6 wr) (fun i _ => n - (intOf i).toNat)
                    case atStart => exact ⟨0, by omega, rfl, Lib.hid rfl, Ext.refl _⟩
                    case round =>
                      obtain ⟨g, hg, rfl, HGG, hx6⟩ := hrel
                      by_cases hlt3 : g < n
                      · obtain ⟨q', hqq⟩ := h.idx hlt3
                        have ok' := OK.out q' (List.mem_of_getElem? hqq)
                        obtain ⟨b7, off7, s7, f7, A71, n71, c71, A72, n72, c72, A73, n73, c73, A74, n74, c74, q7, e7, ⟨_, hne7⟩, hv7, i0, i1, i2, i3, i4, i5, i6⟩ := (h.ext ((ew.trans e6).trans hx6)).rule hqq
                        cases e7
                        obtain ⟨ss, hss, hgd⟩ := set0_ok ok'
                        have h0 : q'.source[0]? = some (set0 q') := by rw [hss]; rfl
                        have hn0 : 0 < n72 := by rw [← hv7.source.len, hss]; simp
                        obtain ⟨b2, off2, A', n', c', rfl, ⟨hb2, hne2⟩, hc2, hsl⟩ := hv7.source.sl h0
                        have hsl : Spans wr A' n' c' (set0 q') := hsl
                        simp only [Nat.add_zero] at hc2
                        have ea7 := hx6.alloc (.cells #[.bool s7, .bool f7, .slice A71 n71 c71, .slice (some ⟨b2, off2, none⟩) n72 c72, .slice A73 n73 c73, .slice A74 n74 c74, .int .i64 q7] 25)
                        have HH := Lib.hid (refHas_any A' n' c' (set0 q') x _ (hsl.ext ((Ext.refl wr).alloc (.cells #[.bool s7, .bool f7, .slice A71 n71 c71, .slice (some ⟨b2, off2, none⟩) n72 c72, .slice A73 n73 c73, .slice A74 n74 c74, .int .i64 q7] 25))))
                        have HD3 := Lib.hid (drop_cons hqq)
                        clear hqq ok' hv7 hss hgd h0 hsl
                        cases hh : has (set0 q') x
                        · have HG2 : Hid ((l.any fun q => has (set0 q) x) = ((l.drop (g + 1)).any fun q => has (set0 q) x)) := Lib.hid (by rw [HGG.out, HD3.out, List.any_cons, hh, Bool.false_or])
                          have H2 := Lib.hid hh; clear hh
                          go_wp2_with (go_at_call 62; refine HH.out.mono ?_; rintro e w8 ⟨rfl, x8⟩; rw [H2.out])
                          go_roundw
                          case rel => exact ⟨g + 1, by omega, by go_num, HG2, ea7.trans x8⟩
                          case measure => simp [intOf]; omega
                        · have HG2 : Hid ((l.any fun q => has (set0 q) x) = true) := Lib.hid (by rw [HGG.out, HD3.out, List.any_cons, hh, Bool.true_or])
                          have HV2 := Lib.hid (HA.out (by rw [HR2.out, HJ.out, HD2.out, List.any_cons, ← HHS.out x, HG2.out]; rfl))
                          have H2 := Lib.hid hh; clear hh
                          go_wp2_with (go_at_call 62; refine HH.out.mono ?_; rintro e w8 ⟨rfl, x8⟩; rw [H2.out]; have f8 := e6.trans (ea7.trans x8); have y0 := f8.cell K0.out; have y1 := f8.cell K1.out; have yz := (KZ.out.ext f8).2; have yl := KZ.out.lt f8)
                          rw [HV2.out, HZ.out]
                          refine bodyPost_ret (v := .tuple #[.bool false, .agg #[.int .i64 0, .int .i64 0]]) (by simp [results, Try.results80, go_sem, y0, y1, yl]) rfl ?_
                          exact ⟨rfl, by repeat (first | exact ew.trans f8 | refine Ext.drew ?_ | refine ext_set ?_ (Nat.le_refl _) _ _ | refine Ext.alloc ?_ _)⟩
                      · have HG2 : Hid ((l.any fun q => has (set0 q) x) = false) := Lib.hid (by rw [HGG.out, drop_end hlen.out hlt3]; rfl)
                        have HJ2 : Hid ((r.target.any fun x => has (ofV (allF l)) x) = ((r.target.drop (j + 1)).any fun x => has (ofV (allF l)) x)) := Lib.hid (by rw [HJ.out, HD2.out, List.any_cons, ← HHS.out x, HG2.out, Bool.false_or])
                        go_wp2
                        go_roundw
                        case rel => exact ⟨j + 1, by omega, by go_num, HJ2, e56.trans hx6⟩
                        case measure => simp [intOf]; omega
                  · have HJ2 : Hid (okS l r = true) := Lib.hid (by rw [HR2.out, HJ.out, drop_end HTL.out hlt2]; rfl)
                    go_wp2
                    go_roundw
                    case rel => exact ⟨k + 1, by omega, by go_num, Lib.hid (HK2.out HJ2.out), ea.trans hx5⟩
                    case measure => simp [intOf]; omega
            · have HVF2 := Lib.hid (HA.out (by rw [HRR.out]; simp))
              have y0 := hx.cell K0.out; have y1 := hx.cell K1.out; have yz := (KZ.out.ext hx).2; have yl := KZ.out.lt hx
              go_wp2
              rw [HVF2.out, HZ.out]
              refine bodyPost_ret (v := .tuple #[.bool false, .agg #[.int .i64 0, .int .i64 0]]) (by simp [results, Try.results80, go_sem, y0, y1, yl]) rfl ?_
              exact ⟨rfl, by repeat (first | exact ew.trans hx | refine Ext.drew ?_ | refine ext_set ?_ (Nat.le_refl _) _ _ | refine Ext.alloc ?_ _)⟩
          · have a3 : 0 < n3 := by omega
            have HVF2 := Lib.hid (HA.out (by rw [HRR.out, decide_eq_false a2]; simp))
            clear a2
            have y0 := hx.cell K0.out; have y1 := hx.cell K1.out; have yz := (KZ.out.ext hx).2; have yl := KZ.out.lt hx
            go_wp2
            rw [HVF2.out, HZ.out]
            refine bodyPost_ret (v := .tuple #[.bool false, .agg #[.int .i64 0, .int .i64 0]]) (by simp [results, Try.results80, go_sem, y0, y1, yl]) rfl ?_
            exact ⟨rfl, by repeat (first | exact ew.trans hx | refine Ext.drew ?_ | refine ext_set ?_ (Nat.le_refl _) _ _ | refine Ext.alloc ?_ _)⟩
        · have a3 : 1 < n2 := by omega
          have HVF2 := Lib.hid (HA.out (by rw [HRR.out, decide_eq_false a1]; simp))
          clear a1
          have y0 := hx.cell K0.out; have y1 := hx.cell K1.out; have yz := (KZ.out.ext hx).2; have yl := KZ.out.lt hx
          go_wp2
          rw [HVF2.out, HZ.out]
          refine bodyPost_ret (v := .tuple #[.bool false, .agg #[.int .i64 0, .int .i64 0]]) (by simp [results, Try.results80, go_sem, y0, y1, yl]) rfl ?_
          exact ⟨rfl, by repeat (first | exact ew.trans hx | refine Ext.drew ?_ | refine ext_set ?_ (Nat.le_refl _) _ _ | refine Ext.alloc ?_ _)⟩
      · have HV2 := Lib.hid (HVT.out (by rw [HK.out, drop_end hlen.out hlt]; rfl))
        have y0 := hx.cell K0.out; have y1 := hx.cell K1.out; have yz := (KZ.out.ext hx).2; have yl := KZ.out.lt hx
        go_wp2
        rw [HV2.out, HZ.out]
        refine bodyPost_ret (v := .tuple #[.bool true, .agg #[.int .i64 0, .int .i64 0]]) (by simp [results, Try.results80, go_sem, y0, y1, yl]) rfl ?_
        exact ⟨rfl, by repeat (first | exact ew.trans hx | refine Ext.drew ?_ | refine ext_set ?_ (Nat.le_refl _) _ _ | refine Ext.alloc ?_ _)⟩
  · have HV : Hid (steadyV l = false) := Lib.hid (by unfold steadyV; rw [decide_eq_false hz]; rfl)
    have hb : (ofE (allF l) != 0) = true := by simpa using hz
    clear hz hok
    rw [HV.out]
    go_enter Try.func80, Try.ntmps80
    go_wp2_with fail
    generalize w.alloc (.cells #[.int .i64 0, .int .i64 0] 38) = w1 at *
    go_wp2_with (first
      | (go_at_call 32; refine HC.out.mono ?_; rintro e w2 ⟨rfl, hx2⟩; rw [HR.out]; have x2a := hx2.alloc (.cells #[.int .i64 0, .int .i64 0] 38))
      | (go_at_call 79; refine (HF.out _ (e1.trans x2a)).mono ?_; rintro e w3 ⟨⟨A3, c3, rfl, s3⟩, x3⟩; clear s3; have e13 := x2a.trans x3; have y0 := e13.cell k0; have y1 := e13.cell k1; have yz := (wb.ext e13).2; have yl := wb.lt e13))
    refine bodyPost_ret (v := .tuple #[.bool false, .agg #[.int .i64 (ofE (allF l)), .int .i64 0]]) (by simp [results, Try.results80, go_sem, y0, y1, yl]) rfl ?_
    exact ⟨rfl, by repeat (first | exact e1.trans e13 | refine Ext.drew ?_ | refine ext_set ?_ (Nat.le_refl _) _ _ | refine Ext.alloc ?_ _)⟩

end Go.Proofs.Ytfdkbhbnldcbmaa
