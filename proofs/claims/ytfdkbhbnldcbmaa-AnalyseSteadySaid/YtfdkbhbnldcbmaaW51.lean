/- Walk: whether rules are steady. -/
import Derived.Test.YtfdkbhbnldcbmaaW50
import Derived.BigQuiet
import Derived.BigRegion
import Derived.Deep.Cut
import Derived.Deep.CutRange
namespace Go.Proofs.Ytfdkbhbnldcbmaa
open Go.RowKit
set_option linter.unusedVariables false
set_option linter.unusedSimpArgs false

theorem firsts_good {l : List Rule} (hok : ∀ r ∈ l, OkRule r) (he : ofE (allF l) = 0) : Good (ofV (allF l)) := by
  have hset := ofS_set (allF_ok hok)
  have hb : (allF l).any spBad = false := by rw [List.any_eq_false]; intro x hx; simpa using okSp_iff.2 (allF_ok hok x hx)
  by_cases hg : 200 < (ofS (allF l)).length
  · rw [(ofE_big hb hg).1] at he; simp at he
  · rw [(ofE_ok hb hg).2]; exact hset.1.good (by omega)

/-- 'sets.Has(first, x)', first captured -/
theorem steadyAt_any (B : Nat) (A : Option Addr) (n c : Nat) (s : List Sp) (r : Int) (w : World) (h : Spans w A n c s) (hg : Good s) (h0 : w.cell? ⟨B, 0, none⟩ = some (.slice A n c)) :
    Calls Try.prog 132 #[.int .i32 r, .pointer (some ⟨B, 0, none⟩)] w fun e w' => e = .returned (.bool (has s r)) ∧ Ext w w' := by
  have HC := Lib.hid (setsHas_any A n c s r w h (wrong_of_good hg))
  go_enter Try.func132, Try.ntmps132
  go_wp2_with (go_at_call 51; refine HC.out.mono ?_; rintro e w1 ⟨rfl, x1⟩)
  go_ret
  exact ⟨rfl, x1⟩

def steadyV (l : List Rule) : Bool := decide (ofE (allF l) = 0) && steadyB l

section
variable (A : Option Addr) (n c : Nat) (l : List Rule) (w : World) (h : Rules w A n c l)
set_option maxRecDepth 100000 in
set_option maxHeartbeats 1600000 in
include h in
theorem Steady_bad (hr : (wrongRules l).1 ≠ 0) :
    Calls Try.prog 77 #[.slice A n c] w fun e w' => e = .returned (.tuple #[.bool false, .agg #[.int .i64 (wrongRules l).1, .int .i64 (wrongRules l).2]]) ∧ Ext w w' := by
  have e1 := (Ext.refl w).alloc (.cells #[.int .i64 0, .int .i64 0] 38)
  have k0 : (w.alloc (.cells #[.int .i64 0, .int .i64 0] 38)).cell? ⟨w.heap.size, 0, none⟩ = some (.int .i64 0) := by simp
  have k1 : (w.alloc (.cells #[.int .i64 0, .int .i64 0] 38)).cell? ⟨w.heap.size, 1, none⟩ = some (.int .i64 0) := by simp
  have wb := Wr.new w #[.int .i64 0, .int .i64 0] 38
  have HC := Lib.hid (Firsts_bad A n c l _ (h.ext e1) hr)
  have hr' : ((wrongRules l).1 != 0) = true := by simpa using hr
  clear hr
  generalize (wrongRules l).1 = p1 at *
  generalize (wrongRules l).2 = p2 at *
  go_enter Try.func77, Try.ntmps77
  go_wp2_with fail
  generalize w.alloc (.cells #[.int .i64 0, .int .i64 0] 38) = w1 at *
  go_wp2_with (go_at_call 76; refine HC.out.mono ?_; rintro e w2 ⟨rfl, hx2⟩; have v0 := hx2.cell k0; have v1 := hx2.cell k1; have vz := (wb.ext hx2).2; have n1 := wb.lt hx2)
  go_region
  go_wp2
  refine bodyPost_ret (v := .tuple #[.bool false, .agg #[.int .i64 p1, .int .i64 p2]]) (by simp [results, Try.results77, go_sem, v0, v1, n1]) rfl ?_
  exact ⟨rfl, by repeat (first | exact e1.trans hx2 | refine Ext.drew ?_ | refine ext_set ?_ (Nat.le_refl _) _ _ | refine Ext.alloc ?_ _)⟩

set_option maxRecDepth 100000 in
set_option maxHeartbeats 4000000 in
include h in
theorem Steady_ok (hr : (wrongRules l).1 = 0) :
    Calls Try.prog 77 #[.slice A n c] w fun e w' => e = .returned (.tuple #[.bool (steadyV l), .agg #[.int .i64 (ofE (allF l)), .int .i64 0]]) ∧ Ext w w' := by
  obtain ⟨hr0, hl2, hok⟩ := wrongRules_zero hr
  have hcap := h.cap
  have hn2 : n ≤ 200 := by rw [← h.len]; exact hl2
  have hlen := Lib.hid h.len
  have OK := Lib.hid hok
  have e1 := (Ext.refl w).alloc (.cells #[.int .i64 0, .int .i64 0] 38)
  have k0 : (w.alloc (.cells #[.int .i64 0, .int .i64 0] 38)).cell? ⟨w.heap.size, 0, none⟩ = some (.int .i64 0) := by simp
  have k1 : (w.alloc (.cells #[.int .i64 0, .int .i64 0] 38)).cell? ⟨w.heap.size, 1, none⟩ = some (.int .i64 0) := by simp
  have wb := Wr.new w #[.int .i64 0, .int .i64 0] 38
  have HC := Lib.hid (Firsts_ok A n c l _ (h.ext e1) hr)
  have HS := Lib.hid (fun W (e : Ext w W) => Sure_any A n c l W (h.ext e))
  have hmf : ∀ (fn : Fn) (first cap : Array Value) (w : World), (Instr.makeFunc fn first cap).run Try.prog w = .ok (.func fn first cap) w := fun _ _ _ _ => rfl
  have eg : ∀ args w, (callFunc 132 args).run Try.prog w = .ok (.enter 132 args) w := enters Try.func132 (by kernel_rfl) rfl
  have EG := Lib.hid eg
  clear hr hr0 hl2 eg
  by_cases hz : ofE (allF l) = 0
  · have HG := Lib.hid (firsts_good hok hz)
    have HZ := Lib.hid hz
    clear hz hok
    have HVS : Hid (sureR l = false → steadyV l = false) := Lib.hid (fun hs => by unfold steadyV steadyB; rw [hs]; simp)
    have HVA : Hid (∀ r ∈ l, steadyR l r = false → steadyV l = false) := Lib.hid (fun r hr hs => by
      have : (l.all fun r => steadyR l r) = false := by rw [List.all_eq_false]; exact ⟨r, hr, by rw [hs]; simp⟩
      unfold steadyV steadyB; rw [this]; simp)
    have HVT : Hid (sureR l = true → (l.all fun r => steadyR l r) = true → steadyV l = true) := Lib.hid (fun h1 h2 => by unfold steadyV steadyB; rw [h1, h2, HZ.out]; rfl)
    go_enter Try.func77, Try.ntmps77
    go_wp2_with fail
    generalize w.alloc (.cells #[.int .i64 0, .int .i64 0] 38) = w1 at *
    go_upto_region 4 with (go_at_call 76; refine HC.out.mono ?_; rintro e w2 ⟨⟨A2, c2, rfl, s2⟩, hx2⟩; rw [HZ.out])
    have b1 := Lib.hid (((Ext.refl _).alloc (.cells #[.int .i64 0, .int .i64 0] 38)).cell (cell_new w2 #[.slice A2 (ofV (allF l)).length c2] 67 0 (.slice A2 (ofV (allF l)).length c2) rfl))
    have z0 := cell_new (w2.alloc (.cells #[.slice A2 (ofV (allF l)).length c2] 67)) #[.int .i64 0, .int .i64 0] 38 0 (.int .i64 0) rfl
    have z1 := cell_new (w2.alloc (.cells #[.slice A2 (ofV (allF l)).length c2] 67)) #[.int .i64 0, .int .i64 0] 38 1 (.int .i64 0) rfl
    rw [World.size_alloc] at z0 z1
    have e3 := (hx2.alloc (.cells #[.slice A2 (ofV (allF l)).length c2] 67)).alloc (.cells #[.int .i64 0, .int .i64 0] 38)
    have hl3 : w2.heap.size + 2 ≤ ((w2.alloc (.cells #[.slice A2 (ofV (allF l)).length c2] 67)).alloc (.cells #[.int .i64 0, .int .i64 0] 38)).heap.size := by simp
    have sp := Spans.ext s2 (((Ext.refl w2).alloc (.cells #[.slice A2 (ofV (allF l)).length c2] 67)).alloc (.cells #[.int .i64 0, .int .i64 0] 38))
    generalize (w2.alloc (.cells #[.slice A2 (ofV (allF l)).length c2] 67)).alloc (.cells #[.int .i64 0, .int .i64 0] 38) = w3 at *
    have hw12 := hx2.size
    have hH0 : w.heap.size < w1.heap.size := World.block_lt_of_cell? _ _ k0
    have K0 := Lib.hid (e3.cell k0); have K1 := Lib.hid (e3.cell k1); have KZ := Lib.hid (wb.ext e3)
    have Z0 := Lib.hid z0; have Z1 := Lib.hid z1
    clear z0 z1 s2 k0 k1 wb HC hx2
    have e13 := e1.trans e3
    have hne0 : w.heap.size ≠ w2.heap.size := by omega
    have hne1 : w.heap.size ≠ w2.heap.size + 1 := by omega
    cases hs : sureR l
    · have HSS := Lib.hid hs
      have HVF := Lib.hid (HVS.out hs)
      clear hs HVS HVA HVT
      go_wp2_with (go_at_call 41; refine (HS.out w3 e13).mono ?_; rintro e w4 ⟨rfl, x4⟩; rw [HSS.out]; have y0 := x4.cell K0.out; have y1 := x4.cell K1.out; have yz := (KZ.out.ext x4).2; have yl := KZ.out.lt x4; have v0 := x4.cell Z0.out; have v1 := x4.cell Z1.out; have ex5 := e13.trans x4; have ex0 := ex5)
      go_region
      go_wp2
      rw [HVF.out, HZ.out]
      refine bodyPost_ret (v := .tuple #[.bool false, .agg #[.int .i64 0, .int .i64 0]]) (by simp [results, Try.results77, go_sem, y0, y1, yl]) rfl ?_
      exact ⟨rfl, by repeat (first | exact ex5 | exact ex0 | refine Ext.drew ?_ | refine ext_set ?_ (Nat.le_refl _) _ _ | refine Ext.alloc ?_ _)⟩
    · have HSS := Lib.hid hs
      have HVT2 := Lib.hid (HVT.out hs)
      clear hs HVS HVT
      go_wp2_with (go_at_call 41; refine (HS.out w3 e13).mono ?_; rintro e w4 ⟨rfl, x4⟩; rw [HSS.out])
      go_loopw [23] (fun i wr => ∃ k : Nat, k ≤ n ∧ i = .int .i64 k ∧ Hid ((l.all fun r => steadyR l r) = ((l.drop k).all fun r => steadyR l r)) ∧ Ext w3 wr) (fun i _ => n - (intOf i).toNat)
      case atStart => exact ⟨0, by omega, rfl, Lib.hid rfl, x4⟩
      case round =>
        obtain ⟨k, hk, rfl, HK, hx⟩ := hrel
        clear x4
        have hl : w2.heap.size + 2 ≤ wr.heap.size := by have := hx.size; omega
        by_cases hlt : k < n
        · obtain ⟨r, hrr⟩ := h.idx hlt
          have hrm := List.mem_of_getElem? hrr
          obtain ⟨b, off, s, f, A1, n1, c1, A2', n2', c2', A3, n3, c3, A4, n4, c4, q, rfl, ⟨_, hne⟩, hv, j0, j1, j2, j3, j4, j5, j6⟩ := (h.ext (e13.trans hx)).rule hrr
          have ea := hx.alloc (.cells #[.bool s, .bool f, .slice A1 n1 c1, .slice A2' n2' c2', .slice A3 n3 c3, .slice A4 n4 c4, .int .i64 q] 25)
          have ex5 := e13.trans ea
          have ex0 := e13.trans hx
          have y0 := hx.cell K0.out; have y1 := hx.cell K1.out; have yz := (KZ.out.ext hx).2; have yl := KZ.out.lt hx
          have v0 := hx.cell Z0.out; have v1 := hx.cell Z1.out
          have hl1 : w2.heap.size + 1 < wr.heap.size := by omega
          have hl0 : w2.heap.size < wr.heap.size := by omega
          have y2 := hx.cell b1.out
          have h1 : r.source.length = n2' := hv.source.len
          have h2 : r.after.length = n3 := hv.after.len
          have h3 : r.fin = f := hv.fin
          have HA := Lib.hid (fun (hb : steadyR l r = false) => HVA.out r hrm hb)
          have hp : PredRune 132 #[.pointer (some ⟨w2.heap.size, 0, none⟩)] (fun x => has (ofV (allF l)) x) (wr.alloc (.cells #[.bool s, .bool f, .slice A1 n1 c1, .slice A2' n2' c2', .slice A3 n3 c3, .slice A4 n4 c4, .int .i64 q] 25)) :=
            fun W x e => steadyAt_any w2.heap.size A2 _ c2 (ofV (allF l)) x W (sp.ext (ea.trans e)) HG.out ((ea.trans e).cell b1.out)
          have HT := Lib.hid (ContainsRune_any A4 n4 c4 r.target _ 132 #[.pointer (some ⟨w2.heap.size, 0, none⟩)] _ EG.out hp (hv.target.ext ((Ext.refl wr).alloc _)))
          have HD := Lib.hid (drop_cons hrr)
          have HR : Hid (steadyR l r = (decide (n2' = 1) && decide (n3 = 0) && !f && !(r.target.any fun x => has (ofV (allF l)) x))) := Lib.hid (by unfold steadyR; rw [h1, h2, h3])
          clear hrr hrm hv hp h1 h2 h3 HVA
          generalize (r.target.any fun x => has (ofV (allF l)) x) = tb at *
          by_cases a1 : n2' = 1
          · subst a1
            by_cases a2 : n3 = 0
            · subst a2
              cases f
              · cases tb
                · have HK2 : Hid ((l.all fun r => steadyR l r) = ((l.drop (k + 1)).all fun r => steadyR l r)) := Lib.hid (by
                    rw [HK.out, HD.out, List.all_cons, HR.out]; rfl)
                  go_wp2_with (go_at_call 84; refine HT.out.mono ?_; rintro e w5 ⟨rfl, x5⟩)
                  go_roundw
                  case rel => exact ⟨k + 1, by omega, by go_num, HK2, ea.trans x5⟩
                  case measure => simp [intOf]; omega
                · have HVF := Lib.hid (HA.out (by rw [HR.out]; simp))
                  clear y0 y1 yz yl v0 v1 y2
                  have ex6 := ex5
                  clear ex5
                  have y2 := hx.cell b1.out
                  go_wp2_with (go_at_call 84; refine HT.out.mono ?_; rintro e w5 ⟨rfl, x5⟩; have f5 := ea.trans x5; have y0 := f5.cell K0.out; have y1 := f5.cell K1.out; have yz := (KZ.out.ext f5).2; have yl := KZ.out.lt f5; have v0 := f5.cell Z0.out; have v1 := f5.cell Z1.out; have ex5 := ex6.trans x5)
                  go_region
                  go_wp2
                  rw [HVF.out, HZ.out]
                  refine bodyPost_ret (v := .tuple #[.bool false, .agg #[.int .i64 0, .int .i64 0]]) (by simp [results, Try.results77, go_sem, y0, y1, yl]) rfl ?_
                  exact ⟨rfl, by repeat (first | exact ex5 | exact ex0 | refine Ext.drew ?_ | refine ext_set ?_ (Nat.le_refl _) _ _ | refine Ext.alloc ?_ _)⟩
              · have HVF := Lib.hid (HA.out (by rw [HR.out]; simp))
                go_wp2_with fail
                go_region
                go_wp2
                rw [HVF.out, HZ.out]
                refine bodyPost_ret (v := .tuple #[.bool false, .agg #[.int .i64 0, .int .i64 0]]) (by simp [results, Try.results77, go_sem, y0, y1, yl]) rfl ?_
                exact ⟨rfl, by repeat (first | exact ex5 | exact ex0 | refine Ext.drew ?_ | refine ext_set ?_ (Nat.le_refl _) _ _ | refine Ext.alloc ?_ _)⟩
            · have a3 : 0 < n3 := by omega
              have t2 : decide ((0 : Int) < (n3 : Int)) = true := by simp; omega
              have HVF := Lib.hid (HA.out (by rw [HR.out, decide_eq_false a2]; simp))
              clear a2
              go_wp2_with fail
              go_region
              go_wp2
              rw [HVF.out, HZ.out]
              refine bodyPost_ret (v := .tuple #[.bool false, .agg #[.int .i64 0, .int .i64 0]]) (by simp [results, Try.results77, go_sem, y0, y1, yl]) rfl ?_
              exact ⟨rfl, by repeat (first | exact ex5 | exact ex0 | refine Ext.drew ?_ | refine ext_set ?_ (Nat.le_refl _) _ _ | refine Ext.alloc ?_ _)⟩
          · have t1 : ((n2' : Int) != 1) = true := by simp; omega
            have HVF := Lib.hid (HA.out (by rw [HR.out, decide_eq_false a1]; simp))
            clear a1
            go_wp2_with fail
            go_region
            go_wp2
            rw [HVF.out, HZ.out]
            refine bodyPost_ret (v := .tuple #[.bool false, .agg #[.int .i64 0, .int .i64 0]]) (by simp [results, Try.results77, go_sem, y0, y1, yl]) rfl ?_
            exact ⟨rfl, by repeat (first | exact ex5 | exact ex0 | refine Ext.drew ?_ | refine ext_set ?_ (Nat.le_refl _) _ _ | refine Ext.alloc ?_ _)⟩
        · have HVT3 := Lib.hid (HVT2.out (by rw [HK.out, drop_end hlen.out hlt]; rfl))
          have y0 := hx.cell K0.out; have y1 := hx.cell K1.out; have yz := (KZ.out.ext hx).2; have yl := KZ.out.lt hx
          have v0 := hx.cell Z0.out; have v1 := hx.cell Z1.out
          have ex5 := e13.trans hx
          have ex0 := ex5
          go_wp2_with fail
          go_region
          go_wp2
          rw [HVT3.out, HZ.out]
          refine bodyPost_ret (v := .tuple #[.bool true, .agg #[.int .i64 0, .int .i64 0]]) (by simp [results, Try.results77, go_sem, y0, y1, yl]) rfl ?_
          exact ⟨rfl, by repeat (first | exact ex5 | exact ex0 | refine Ext.drew ?_ | refine ext_set ?_ (Nat.le_refl _) _ _ | refine Ext.alloc ?_ _)⟩
  · have HV : Hid (steadyV l = false) := Lib.hid (by unfold steadyV; rw [decide_eq_false hz]; rfl)
    have hb : (ofE (allF l) != 0) = true := by simpa using hz
    clear hz hok
    rw [HV.out]
    go_enter Try.func77, Try.ntmps77
    go_wp2_with fail
    generalize w.alloc (.cells #[.int .i64 0, .int .i64 0] 38) = w1 at *
    go_wp2_with (go_at_call 76; refine HC.out.mono ?_; rintro e w2 ⟨⟨A2, c2, rfl, s2⟩, hx2⟩; have v0 := hx2.cell k0; have v1 := hx2.cell k1; have vz := (wb.ext hx2).2; have n1 := wb.lt hx2; clear s2)
    go_region
    go_wp2
    refine bodyPost_ret (v := .tuple #[.bool false, .agg #[.int .i64 (ofE (allF l)), .int .i64 0]]) (by simp [results, Try.results77, go_sem, v0, v1, n1]) rfl ?_
    exact ⟨rfl, by repeat (first | exact e1.trans hx2 | refine Ext.drew ?_ | refine ext_set ?_ (Nat.le_refl _) _ _ | refine Ext.alloc ?_ _)⟩
end

end Go.Proofs.Ytfdkbhbnldcbmaa
