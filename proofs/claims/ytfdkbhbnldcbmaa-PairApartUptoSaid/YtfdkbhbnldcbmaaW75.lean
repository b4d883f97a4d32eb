/- Walk: whether it is sure that rules undo others, by the program. -/
import Derived.Test.YtfdkbhbnldcbmaaW74
import Derived.Deep.RegionHeld3
namespace Go.Proofs.Ytfdkbhbnldcbmaa
open Go.RowKit
set_option linter.unusedVariables false
set_option linter.unusedSimpArgs false

theorem img_len {l : List Rule} (hok : ∀ r ∈ l, OkRule r) (u : Int) : (imgOf l u).length ≤ 20 := by
  by_cases hf : first l [u] 0 < 0
  · rw [imgOf_no hf]; simp
  · obtain ⟨i, r, hir, _, hfi⟩ := first_mem (t := [u]) (a := 0) (l := l) (by omega)
    rw [imgOf_some hfi hir]
    exact (hok r (List.mem_of_getElem? hir)).lt
theorem pairE1 {f b : List Rule} {d : List Sp} (h : (wrongRules f).1 ≠ 0) : pairE f b d = (wrongRules f).1 ∧ pairV f b d = false := by
  have e : pairE f b d = (wrongRules f).1 := by unfold pairE; rw [if_pos h]
  exact ⟨e, by unfold pairV; rw [e, decide_eq_false h]; rfl⟩
theorem pairE2 {f b : List Rule} {d : List Sp} (h0 : (wrongRules f).1 = 0) (h : (wrongRules b).1 ≠ 0) : pairE f b d = (wrongRules b).1 ∧ pairV f b d = false := by
  have e : pairE f b d = (wrongRules b).1 := by unfold pairE; rw [if_neg (by simpa using h0), if_pos h]
  exact ⟨e, by unfold pairV; rw [e, decide_eq_false h]; rfl⟩
theorem pairE3 {f b : List Rule} {d : List Sp} (h0 : (wrongRules f).1 = 0) (h1 : (wrongRules b).1 = 0) (h : wrongSet d ≠ 0) : pairE f b d = wrongSet d ∧ pairV f b d = false := by
  have e : pairE f b d = wrongSet d := by unfold pairE; rw [if_neg (by simpa using h0), if_neg (by simpa using h1), if_pos h]
  exact ⟨e, by unfold pairV; rw [e, decide_eq_false h]; rfl⟩
theorem pairE4 {f b : List Rule} {d : List Sp} (h0 : (wrongRules f).1 = 0) (h1 : (wrongRules b).1 = 0) (h2 : wrongSet d = 0) (h : 40 < countL d) : pairE f b d = 4 ∧ pairV f b d = false := by
  have e : pairE f b d = 4 := by unfold pairE; rw [if_neg (by simpa using h0), if_neg (by simpa using h1), if_neg (by simpa using h2), if_pos h]
  exact ⟨e, by unfold pairV; rw [e]; rfl⟩
theorem pairE5 {f b : List Rule} {d : List Sp} (h0 : (wrongRules f).1 = 0) (h1 : (wrongRules b).1 = 0) (h2 : wrongSet d = 0) (h : ¬ 40 < countL d) : pairE f b d = 0 ∧ pairV f b d = ((plainR f && plainR b) && pairB f b (unitsL d)) := by
  have e : pairE f b d = 0 := by unfold pairE; rw [if_neg (by simpa using h0), if_neg (by simpa using h1), if_neg (by simpa using h2), if_neg h]
  exact ⟨e, by unfold pairV; rw [e]; rfl⟩
theorem two_new {w : World} (X Y : Option Addr) (nx cx ny cy : Nat) (x y : List Int) (t : TypeId) (hx : Runes w X nx cx x) (hy : Runes w Y ny cy y) : Texts (w.alloc (.cells #[.slice X nx cx, .slice Y ny cy] t)) (some ⟨w.heap.size, 0, none⟩) 2 2 [x, y] :=
  SlR.fresh rfl (by unfold maxLen; omega) fun i u hu => by
    match i, hu with
    | 0, hu => cases hu; exact ⟨[.slice X nx cx], rfl, ⟨X, nx, cx, rfl, hx.ext ((Ext.refl w).alloc _)⟩, fun j v hv => by match j, hv with | 0, hv => simpa using hv⟩
    | 1, hu => cases hu; exact ⟨[.slice Y ny cy], rfl, ⟨Y, ny, cy, rfl, hy.ext ((Ext.refl w).alloc _)⟩, fun j v hv => by match j, hv with | 0, hv => simpa using hv⟩

/-- the first field of a fault that is handed back -/
theorem fault_err (x y : Int) (W : World) : (Instr.field 38 (.agg #[.int .i64 x, .int .i64 y]) 0).run Try.prog W = .ok (.int .i64 x) W := by
  unfold Instr.field
  simp [run_underlying Try.underlying38, asAgg, part]

/-- what Sure hands back -/
def SureR (f b : List Rule) (d : List Sp) (e : Ending) : Prop := e = .returned (.tuple #[.bool (pairV f b d), .int .i64 (pairE f b d)])
theorem SureR.of {f b : List Rule} {d : List Sp} {v : Bool} {x : Int} (he : pairE f b d = x) (hv : pairV f b d = v) : SureR f b d (.returned (.tuple #[.bool v, .int .i64 x])) := by unfold SureR; rw [he, hv]

section
variable (A : Option Addr) (n c : Nat) (f : List Rule) (A' : Option Addr) (n' c' : Nat) (b : List Rule) (B : Option Addr) (m d : Nat) (ds : List Sp) (w : World) (hf : Rules w A n c f) (hb : Rules w A' n' c' b) (hd : Spans w B m d ds)
set_option maxRecDepth 100000 in
set_option maxHeartbeats 4000000 in
include hf hb hd in
theorem pairSure_main (h0 : (wrongRules f).1 = 0) (h1 : (wrongRules b).1 = 0) (h2 : wrongSet ds = 0) (h3 : ¬ 40 < countL ds) (p1 : plainR f = true) (p2 : plainR b = true) :
    Calls Try.prog 48 #[.slice A n c, .slice A' n' c', .slice B m d] w fun e w' => SureR f b ds e ∧ Ext w w' := by
  have hfl := fault_err
  have C1 := Lib.hid (Wrongs_any A n c f w hf)
  rw [(wrongRules_zero h0).1] at C1
  have C2 := Lib.hid (fun W (e : Ext w W) => Wrongs_any A' n' c' b W (hb.ext e))
  rw [(wrongRules_zero h1).1] at C2
  have C3 := Lib.hid (fun W (e : Ext w W) => Count_any B m d ds W (hd.ext e))
  have okf := (wrongRules_zero h0).2.2
  have okb := (wrongRules_zero h1).2.2
  have hG := good_of h2
  have hul := units_len (d := ds) (fun x hx => hG.rng x hx)
  have hcv : countV ds = countL ds := by unfold countV; rw [if_neg (by simpa using h2)]
  rw [hcv, h2, ← hul] at C3
  have C4 := Lib.hid (fun W (e : Ext w W) => plain_any A n c f W (hf.ext e) okf)
  have C5 := Lib.hid (fun W (e : Ext w W) => plain_any A' n' c' b W (hb.ext e) okb)
  rw [p1] at C4; rw [p2] at C5
  have hu40 : (unitsL ds).length ≤ 40 := by omega
  have C6 := Lib.hid (fun W (e : Ext w W) => images_any A n c f B m d ds W (hf.ext e) okf (hd.ext e) h2 hu40)
  have C7 := Lib.hid (fun W (e : Ext w W) => Reach_any A' n' c' b W (hb.ext e) okb)
  have HE := pairE5 h0 h1 h2 h3
  rw [p1, p2, Bool.and_true, Bool.true_and] at HE
  have HEE := Lib.hid HE
  have OKF := Lib.hid okf; have OKB := Lib.hid okb
  have HPB : Hid (pairB f b (unitsL ds) = (!(blocked f (unitsL ds)) && imgsOk f (unitsL ds) && ((imgs f (unitsL ds)).zip (unitsL ds)).all (outerB b (reachB b 0 0).2 (imgs f (unitsL ds))))) := Lib.hid rfl
  have hur : ∀ u ∈ unitsL ds, i32 u := fun u hu => by have := units_rng (fun x hx => hG.rng x hx) hu; unfold i32; omega
  have HUR := Lib.hid hur
  have hrch := (reachB_le b 0 0 okb (by omega) (by omega)).2
  generalize unitsL ds = us at *
  generalize (reachB b 0 0).1 = r1 at *
  generalize (reachB b 0 0).2 = rch at *
  obtain ⟨N, hN⟩ : ∃ N, us.length = N := ⟨_, rfl⟩
  have HN := Lib.hid hN
  rw [hN] at C3 C6 hu40
  have hN40 : decide (40 < (N : Int)) = false := by simp; omega
  clear h0 h1 h2 h3 okf okb hG hul hcv p1 p2 HE hur hN
  by_cases hbad : (!(blocked f us) && imgsOk f us) = true
  · unfold ImgR at C6
    simp only [hbad, if_true] at C6
    simp only [Bool.and_eq_true] at hbad
    have HIO := Lib.hid hbad.2
    have HP2 : Hid (pairV f b ds = ((imgs f us).zip us).all (outerB b rch (imgs f us))) := Lib.hid (by rw [HEE.out.2, HPB.out, hbad.1, hbad.2]; rfl)
    clear hbad
    rw [HN.out] at C6
    go_enter Try.func48, Try.ntmps48
    go_wp2_with (first
      | (go_at_call 31; ((with_reducible refine C1.out.mono ?_); rintro e w1 ⟨rfl, x1⟩))
      | (go_at_call 31; ((with_reducible refine (C2.out _ x1).mono ?_); rintro e w2 ⟨rfl, x2⟩; have e2 := x1.trans x2))
      | (go_at_call 58; refine (C3.out _ e2).mono ?_; rintro e w3 ⟨rfl, x3⟩; have e3 := e2.trans x3)
      | (go_at_call 107; ((with_reducible refine (C4.out _ e3).mono ?_); rintro e w4 ⟨rfl, x4⟩; have e4 := e3.trans x4))
      | (go_at_call 107; ((with_reducible refine (C5.out _ e4).mono ?_); rintro e w5 ⟨rfl, x5⟩; have e5 := e4.trans x5))
      | (go_at_call 108; refine (C6.out _ e5).mono ?_; rintro e w6 ⟨⟨AU, cU, AO, cO, rfl, sU, sO⟩, x6⟩; have e6 := e5.trans x6)
      | (go_at_call 39; refine (C7.out _ e6).mono ?_; rintro e w7 ⟨rfl, x7⟩; have e7 := e6.trans x7; have sU7 := sU.ext x7; have sO7 := sO.ext x7))
    have HSU := Lib.hid sU7; have HSO := Lib.hid sO7
    have hmO := sO7.max; have hcO := sO7.cap; unfold maxLen at hmO
    have hmU := sU7.max; have hcU := sU7.cap; unfold maxLen at hmU
    clear sU sO sU7 sO7 x1 x2 x3 x4 x5 x6 x7 e2 e3 e4 e5 e6 C1 C2 C3 C4 C5 C6 C7
    generalize hts : imgs f us = ts at *
    have HTS := Lib.hid hts
    have HTL : Hid (ts.length = N) := Lib.hid (by rw [← hts]; simp [imgs, HN.out])
    clear hts
    go_loopw [70] (fun i wr => ∃ k : Nat, k ≤ N ∧ i = .int .i64 k ∧ Hid (pairV f b ds = ((ts.zip us).drop k).all (outerB b rch ts)) ∧ Ext w7 wr) (fun i _ => N - (intOf i).toNat)
    case atStart => exact ⟨0, by omega, rfl, HP2, Ext.refl _⟩
    case round =>
      obtain ⟨k, hk, rfl, HK, hx⟩ := hrel
      generalize wr = wo at *
      by_cases hlt : k < N
      · obtain ⟨t, ht⟩ : ∃ t, ts[k]? = some t := ⟨ts[k]'(by rw [HTL.out]; exact hlt), List.getElem?_eq_getElem _⟩
        obtain ⟨u, hu⟩ : ∃ u, us[k]? = some u := ⟨us[k]'(by rw [HN.out]; exact hlt), List.getElem?_eq_getElem _⟩
        have htu : t = imgOf f u := by
          have := ht; rw [← HTS.out] at this; unfold imgs at this
          rw [List.getElem?_map, hu] at this; simpa using this.symm
        have ht20 : t.length ≤ 20 := by rw [htu]; exact img_len OKF.out u
        have ht0 : 0 < t.length := by
          have h1 := List.all_eq_true.1 HIO.out u (List.mem_of_getElem? hu)
          rw [← htu] at h1
          cases t with
          | nil => simp at h1
          | cons x r => simp
        have hui := HUR.out u (List.mem_of_getElem? hu)
        have hz : (ts.zip us)[k]? = some (t, u) := by rw [List.getElem?_zip_eq_some]; exact ⟨ht, hu⟩
        have HD : Hid (pairV f b ds = ((undoneB b t t.length u && innerB b rch t u ts) && ((ts.zip us).drop (k + 1)).all (outerB b rch ts))) := Lib.hid (by rw [HK.out, drop_cons hz, List.all_cons]; rfl)
        obtain ⟨b1, o1, X1, n1, c1, hAO, _, hc1, hs1⟩ := (HSO.out.ext hx).sl ht
        obtain ⟨b2, o2, hAU, _, hc2, _, _⟩ := (HSU.out.ext hx).rune hu
        subst hAO hAU
        have hl1 : t.length = n1 := hs1.len
        rw [hl1] at ht20 ht0 HD
        have HUN := Lib.hid (undone_any A' n' c' b X1 n1 c1 t n1 u wo (hb.ext (e7.trans hx)) OKB.out hs1 (by omega) ht0 (by omega) hui)
        clear ht hu htu hz
        cases hun : undoneB b t n1 u
        · have HV : Hid (pairV f b ds = false) := Lib.hid (by rw [HD.out, hun]; rfl)
          have HQ := Lib.hid hun; clear hun
          go_wp2_with (go_at_call 109; refine HUN.out.mono ?_; rintro e w8 ⟨rfl, x8⟩; rw [HQ.out])
          refine bodyPost_ret (v := .tuple #[.bool false, .int .i64 0]) (by simp [results, Try.results48, go_sem]) rfl ?_
          exact ⟨SureR.of HEE.out.1 HV.out, (e7.trans hx).trans x8⟩
        · obtain ⟨iv, hiv⟩ : ∃ iv, innerB b rch t u ts = iv := ⟨_, rfl⟩
          have HINN : Hid (iv = ts.all fun v => decide (rch ≤ t.length + v.length) && undoneB b (t ++ v) t.length u) := Lib.hid hiv.symm
          have HD2 : Hid (pairV f b ds = (iv && ((ts.zip us).drop (k + 1)).all (outerB b rch ts))) := Lib.hid (by rw [HD.out, hun, hiv]; rfl)
          have HQ := Lib.hid hun; clear hun hiv
          have HC1 := Lib.hid hc1; have HC2 := Lib.hid hc2
          have HT1 := Lib.hid hs1
          go_wp2_with (go_at_call 109; refine HUN.out.mono ?_; rintro e w8 ⟨rfl, x8⟩; rw [HQ.out])
          go_loopw [87] (fun i wr => ∃ j : Nat, j ≤ N ∧ i = .int .i64 j ∧ Hid (iv = (ts.drop j).all fun v => decide (rch ≤ t.length + v.length) && undoneB b (t ++ v) t.length u) ∧ Ext wo wr) (fun i _ => N - (intOf i).toNat)
          case atStart => exact ⟨0, by omega, rfl, HINN, x8⟩
          case round =>
            obtain ⟨j, hj, rfl, HJ, hy⟩ := hrel
            by_cases hlj : j < N
            · obtain ⟨v, hv⟩ : ∃ v, ts[j]? = some v := ⟨ts[j]'(by rw [HTL.out]; exact hlj), List.getElem?_eq_getElem _⟩
              obtain ⟨b3, o3, X2, n2, c2, hb3, _, hc3, hs3⟩ := (HSO.out.ext (hx.trans hy)).sl hv
              have hb3' := hb3
              simp only [Option.some.injEq, Addr.mk.injEq, and_true] at hb3'
              obtain ⟨rfl, rfl⟩ := hb3'
              have hvt : v ∈ ts := List.mem_of_getElem? hv
              have hv20 : v.length ≤ 20 := by
                rw [← HTS.out] at hvt
                unfold imgs at hvt
                obtain ⟨y, _, rfl⟩ := List.mem_map.1 hvt
                exact img_len OKF.out y
              have hl2 : v.length = n2 := hs3.len
              rw [hl2] at hv20
              have HJD : Hid (iv = ((decide (rch ≤ n1 + n2) && undoneB b (t ++ v) n1 u) && (ts.drop (j + 1)).all fun v => decide (rch ≤ t.length + v.length) && undoneB b (t ++ v) t.length u)) := Lib.hid (by rw [HJ.out, drop_cons hv, List.all_cons, hl1, hl2])
              have hsum : IntKind.i64.wrap ((n1 : Int) + n2) = (n1 : Int) + n2 := IntWalk.i64_in _ (by omega)
              clear hv hvt hb3
              by_cases hr : n1 + n2 < rch
              · have HV : Hid (pairV f b ds = false) := Lib.hid (by rw [HD2.out, HJD.out, decide_eq_false (by omega)]; rfl)
                have hr' : decide ((n1 : Int) + (n2 : Int) < (rch : Int)) = true := by simp; omega
                clear hr
                go_wp2
                go_quiet (fail)
                go_wp2
                refine bodyPost_ret (v := .tuple #[.bool false, .int .i64 0]) (by simp [results, Try.results48, go_sem]) rfl ?_
                exact ⟨SureR.of HEE.out.1 HV.out, ((e7.trans hx).trans hy).trans ((Ext.refl _).drewN _)⟩
              · have hr' : decide ((n1 : Int) + (n2 : Int) < (rch : Int)) = false := by simp; omega
                have hr2 : decide (rch ≤ n1 + n2) = true := by simp; omega
                rw [hr2, Bool.true_and] at HJD
                clear hr hr2
                obtain ⟨tv, htv⟩ : ∃ tv, t ++ v = tv := ⟨_, rfl⟩
                have htvl : tv.length = n1 + n2 := by rw [← htv, List.length_append, hl1, hl2]
                rw [htv] at HJD
                have yd := hy.trans (Ext.refl wr).drew
                have z2 := (yd.cell HC2.out)
                have hs1r := Runes.ext HT1.out hy
                have tx := Texts.ext (two_new X1 X2 n1 c1 n2 c2 t v 23 hs1r hs3) (Ext.refl _).drew
                have xal := ((Ext.refl wr).alloc (.cells #[.slice X1 n1 c1, .slice X2 n2 c2] 23)).drew
                have HCC := Lib.hid (Concat_rune one_rune (keep_rune bot) _ 2 2 _ _ tx (by simp [hl1, hl2]; omega) (fun _ _ h => h))
                rw [show [t, v].flatten = tv by simpa using htv] at HCC
                have zr := hy.cell HC2.out
                have er := (e7.trans hx).trans hy
                have htv4 : tv.length ≤ 4000 := by omega
                have htv0 : 0 < tv.length := by omega
                clear htvl
                cases hun2 : undoneB b tv n1 u
                · have HV : Hid (pairV f b ds = false) := Lib.hid (by rw [HD2.out, HJD.out, hun2]; rfl)
                  have HQ2 := Lib.hid hun2; clear hun2
                  go_wp2
                  go_region_held3 (fun w' => w'.cell? ⟨b2, o2 + k, none⟩ = some (.int .i32 u))
                    (first | go_keep | exact z9 | exact z10)
                    (first
                      | (go_at_call 89; ((with_reducible refine HCC.out.mono ?_); rintro e w9 ⟨vv, rfl, ov, x9⟩; obtain ⟨AX, cX, rfl, sX⟩ := ov.top; have xx := xal.trans x9; have z9 := xx.cell zr))
                      | (go_at_call 109; ((with_reducible refine (undone_any A' n' c' b AX tv.length cX tv n1 u w9 (hb.ext (er.trans xx)) OKB.out sX htv4 htv0 (by omega) hui).mono ?_); rintro e w10 ⟨rfl, x10⟩; rw [HQ2.out]; have z10 := x10.cell z9)))
                  all_goals
                    go_wp2
                    refine bodyPost_ret (v := .tuple #[.bool false, .int .i64 0]) (by simp [results, Try.results48, go_sem]) rfl ?_
                    exact ⟨SureR.of HEE.out.1 HV.out, (er.trans xx).trans x10⟩
                · have HJ2 : Hid (iv = (ts.drop (j + 1)).all fun v => decide (rch ≤ t.length + v.length) && undoneB b (t ++ v) t.length u) := Lib.hid (by rw [HJD.out, hun2, Bool.true_and])
                  have HQ2 := Lib.hid hun2; clear hun2
                  go_wp2
                  go_region_held3 (fun w' => w'.cell? ⟨b2, o2 + k, none⟩ = some (.int .i32 u))
                    (first | go_keep | exact z9 | exact z10)
                    (first
                      | (go_at_call 89; ((with_reducible refine HCC.out.mono ?_); rintro e w9 ⟨vv, rfl, ov, x9⟩; obtain ⟨AX, cX, rfl, sX⟩ := ov.top; have xx := xal.trans x9; have z9 := xx.cell zr))
                      | (go_at_call 109; ((with_reducible refine (undone_any A' n' c' b AX tv.length cX tv n1 u w9 (hb.ext (er.trans xx)) OKB.out sX htv4 htv0 (by omega) hui).mono ?_); rintro e w10 ⟨rfl, x10⟩; rw [HQ2.out]; have z10 := x10.cell z9)))
                  all_goals
                    go_wp2
                    go_roundw
                    case rel => exact ⟨j + 1, by omega, by go_num, HJ2, (hy.trans xx).trans x10⟩
                    case measure => simp [intOf]; omega
            · have HJV : Hid (iv = true) := Lib.hid (by rw [HJ.out, drop_end HTL.out hlj]; rfl)
              have HK2 : Hid (pairV f b ds = ((ts.zip us).drop (k + 1)).all (outerB b rch ts)) := Lib.hid (by rw [HD2.out, HJV.out, Bool.true_and])
              go_wp2
              go_roundw
              case rel => exact ⟨k + 1, by omega, by go_num, HK2, hx.trans hy⟩
              case measure => simp [intOf]; omega
      · have HV : Hid (pairV f b ds = true) := Lib.hid (by rw [HK.out, List.drop_of_length_le (by rw [List.length_zip, HTL.out, HN.out]; omega)]; rfl)
        go_wp2
        refine bodyPost_ret (v := .tuple #[.bool true, .int .i64 0]) (by simp [results, Try.results48, go_sem]) rfl ?_
        exact ⟨SureR.of HEE.out.1 HV.out, e7.trans hx⟩
  · unfold ImgR at C6
    simp only [hbad, if_false] at C6
    have HPF : Hid (pairV f b ds = false) := Lib.hid (by rw [HEE.out.2, HPB.out]; simp only [Bool.not_eq_true] at hbad; rw [hbad]; rfl)
    clear hbad
    go_enter Try.func48, Try.ntmps48
    go_wp2_with (first
      | (go_at_call 31; ((with_reducible refine C1.out.mono ?_); rintro e w1 ⟨rfl, x1⟩))
      | (go_at_call 31; ((with_reducible refine (C2.out _ x1).mono ?_); rintro e w2 ⟨rfl, x2⟩; have e2 := x1.trans x2))
      | (go_at_call 58; refine (C3.out _ e2).mono ?_; rintro e w3 ⟨rfl, x3⟩; have e3 := e2.trans x3)
      | (go_at_call 107; ((with_reducible refine (C4.out _ e3).mono ?_); rintro e w4 ⟨rfl, x4⟩; have e4 := e3.trans x4))
      | (go_at_call 107; ((with_reducible refine (C5.out _ e4).mono ?_); rintro e w5 ⟨rfl, x5⟩; have e5 := e4.trans x5))
      | (go_at_call 108; refine (C6.out _ e5).mono ?_; rintro e w6 ⟨rfl, x6⟩; have e6 := e5.trans x6))
    refine bodyPost_ret (v := .tuple #[.bool false, .int .i64 0]) (by simp [results, Try.results48, go_sem]) rfl ?_
    exact ⟨SureR.of HEE.out.1 HPF.out, e6⟩
-- FROM HERE BY gw75.py
set_option maxRecDepth 100000 in
set_option maxHeartbeats 1600000 in
include hf in
theorem pairSure1 (h0 : (wrongRules f).1 ≠ 0) : Calls Try.prog 48 #[.slice A n c, .slice A' n' c', .slice B m d] w fun e w' => SureR f b ds e ∧ Ext w w' := by
  have hfl := fault_err
  have C1 := Lib.hid (Wrongs_any A n c f w hf)
  have HE := Lib.hid (pairE1 (b := b) (d := ds) h0)
  have hn : ((wrongRules f).1 != 0) = true := by simpa using h0
  clear h0
  generalize (wrongRules f).1 = p1 at *
  generalize (wrongRules f).2 = p2 at *
  go_enter Try.func48, Try.ntmps48
  go_wp2_with (first
    | (go_at_call 31; ((with_reducible refine C1.out.mono ?_); rintro e w1 ⟨rfl, x1⟩)))
  refine bodyPost_ret (v := .tuple #[.bool false, .int .i64 p1]) (by simp [results, Try.results48, go_sem]) rfl ?_
  exact ⟨SureR.of HE.out.1 HE.out.2, x1⟩

set_option maxRecDepth 100000 in
set_option maxHeartbeats 1600000 in
include hf hb in
theorem pairSure2 (h0 : (wrongRules f).1 = 0) (h1 : (wrongRules b).1 ≠ 0) : Calls Try.prog 48 #[.slice A n c, .slice A' n' c', .slice B m d] w fun e w' => SureR f b ds e ∧ Ext w w' := by
  have hfl := fault_err
  have C1 := Lib.hid (Wrongs_any A n c f w hf)
  rw [(wrongRules_zero h0).1] at C1
  have C2 := Lib.hid (fun W (e : Ext w W) => Wrongs_any A' n' c' b W (hb.ext e))
  have HE := Lib.hid (pairE2 (d := ds) h0 h1)
  have hn : ((wrongRules b).1 != 0) = true := by simpa using h1
  clear h0 h1
  generalize (wrongRules b).1 = p1 at *
  generalize (wrongRules b).2 = p2 at *
  go_enter Try.func48, Try.ntmps48
  go_wp2_with (first
    | (go_at_call 31; ((with_reducible refine C1.out.mono ?_); rintro e w1 ⟨rfl, x1⟩))
    | (go_at_call 31; ((with_reducible refine (C2.out _ x1).mono ?_); rintro e w2 ⟨rfl, x2⟩; have e2 := x1.trans x2)))
  refine bodyPost_ret (v := .tuple #[.bool false, .int .i64 p1]) (by simp [results, Try.results48, go_sem]) rfl ?_
  exact ⟨SureR.of HE.out.1 HE.out.2, e2⟩

set_option maxRecDepth 100000 in
set_option maxHeartbeats 1600000 in
include hf hb hd in
theorem pairSure3 (h0 : (wrongRules f).1 = 0) (h1 : (wrongRules b).1 = 0) (h2 : wrongSet ds ≠ 0) : Calls Try.prog 48 #[.slice A n c, .slice A' n' c', .slice B m d] w fun e w' => SureR f b ds e ∧ Ext w w' := by
  have hfl := fault_err
  have C1 := Lib.hid (Wrongs_any A n c f w hf)
  rw [(wrongRules_zero h0).1] at C1
  have C2 := Lib.hid (fun W (e : Ext w W) => Wrongs_any A' n' c' b W (hb.ext e))
  rw [(wrongRules_zero h1).1] at C2
  have C3 := Lib.hid (fun W (e : Ext w W) => Count_any B m d ds W (hd.ext e))
  have HE := Lib.hid (pairE3 h0 h1 h2)
  have hn : (wrongSet ds != 0) = true := by simpa using h2
  clear h0 h1 h2
  generalize wrongSet ds = p1 at *
  go_enter Try.func48, Try.ntmps48
  go_wp2_with (first
    | (go_at_call 31; ((with_reducible refine C1.out.mono ?_); rintro e w1 ⟨rfl, x1⟩))
    | (go_at_call 31; ((with_reducible refine (C2.out _ x1).mono ?_); rintro e w2 ⟨rfl, x2⟩; have e2 := x1.trans x2))
    | (go_at_call 58; refine (C3.out _ e2).mono ?_; rintro e w3 ⟨rfl, x3⟩; have e3 := e2.trans x3))
  refine bodyPost_ret (v := .tuple #[.bool false, .int .i64 p1]) (by simp [results, Try.results48, go_sem]) rfl ?_
  exact ⟨SureR.of HE.out.1 HE.out.2, e3⟩

set_option maxRecDepth 100000 in
set_option maxHeartbeats 1600000 in
include hf hb hd in
theorem pairSure4 (h0 : (wrongRules f).1 = 0) (h1 : (wrongRules b).1 = 0) (h2 : wrongSet ds = 0) (h3 : 40 < countL ds) : Calls Try.prog 48 #[.slice A n c, .slice A' n' c', .slice B m d] w fun e w' => SureR f b ds e ∧ Ext w w' := by
  have hfl := fault_err
  have C1 := Lib.hid (Wrongs_any A n c f w hf)
  rw [(wrongRules_zero h0).1] at C1
  have C2 := Lib.hid (fun W (e : Ext w W) => Wrongs_any A' n' c' b W (hb.ext e))
  rw [(wrongRules_zero h1).1] at C2
  have C3 := Lib.hid (fun W (e : Ext w W) => Count_any B m d ds W (hd.ext e))
  have hcv : countV ds = countL ds := by unfold countV; rw [if_neg (by simpa using h2)]
  rw [hcv, h2] at C3
  have HE := Lib.hid (pairE4 h0 h1 h2 h3)
  have hn : decide (40 < countL ds) = true := by simpa using h3
  clear h0 h1 h2 h3 hcv
  generalize countL ds = z at *
  go_enter Try.func48, Try.ntmps48
  go_wp2_with (first
    | (go_at_call 31; ((with_reducible refine C1.out.mono ?_); rintro e w1 ⟨rfl, x1⟩))
    | (go_at_call 31; ((with_reducible refine (C2.out _ x1).mono ?_); rintro e w2 ⟨rfl, x2⟩; have e2 := x1.trans x2))
    | (go_at_call 58; refine (C3.out _ e2).mono ?_; rintro e w3 ⟨rfl, x3⟩; have e3 := e2.trans x3))
  refine bodyPost_ret (v := .tuple #[.bool false, .int .i64 4]) (by simp [results, Try.results48, go_sem]) rfl ?_
  exact ⟨SureR.of HE.out.1 HE.out.2, e3⟩

set_option maxRecDepth 100000 in
set_option maxHeartbeats 1600000 in
include hf hb hd in
theorem pairSure5 (h0 : (wrongRules f).1 = 0) (h1 : (wrongRules b).1 = 0) (h2 : wrongSet ds = 0) (h3 : ¬ 40 < countL ds) (hp : (plainR f && plainR b) = false) : Calls Try.prog 48 #[.slice A n c, .slice A' n' c', .slice B m d] w fun e w' => SureR f b ds e ∧ Ext w w' := by
  have hfl := fault_err
  have C1 := Lib.hid (Wrongs_any A n c f w hf)
  rw [(wrongRules_zero h0).1] at C1
  have C2 := Lib.hid (fun W (e : Ext w W) => Wrongs_any A' n' c' b W (hb.ext e))
  rw [(wrongRules_zero h1).1] at C2
  have C3 := Lib.hid (fun W (e : Ext w W) => Count_any B m d ds W (hd.ext e))
  have hcv : countV ds = countL ds := by unfold countV; rw [if_neg (by simpa using h2)]
  rw [hcv, h2] at C3
  have C4 := Lib.hid (fun W (e : Ext w W) => plain_any A n c f W (hf.ext e) (wrongRules_zero h0).2.2)
  have C5 := Lib.hid (fun W (e : Ext w W) => plain_any A' n' c' b W (hb.ext e) (wrongRules_zero h1).2.2)
  have hE := pairE5 h0 h1 h2 h3
  rw [hp, Bool.false_and] at hE
  have HE := Lib.hid hE
  have hn : decide (40 < countL ds) = false := by simpa using h3
  clear h0 h1 h2 h3 hcv hE
  generalize countL ds = z at *
  generalize plainR f = q1 at *
  generalize plainR b = q2 at *
  cases q1
  · clear hp
    go_enter Try.func48, Try.ntmps48
    go_wp2_with (first
      | (go_at_call 31; ((with_reducible refine C1.out.mono ?_); rintro e w1 ⟨rfl, x1⟩))
      | (go_at_call 31; ((with_reducible refine (C2.out _ x1).mono ?_); rintro e w2 ⟨rfl, x2⟩; have e2 := x1.trans x2))
      | (go_at_call 58; refine (C3.out _ e2).mono ?_; rintro e w3 ⟨rfl, x3⟩; have e3 := e2.trans x3)
      | (go_at_call 107; ((with_reducible refine (C4.out _ e3).mono ?_); rintro e w4 ⟨rfl, x4⟩; have e4 := e3.trans x4)))
    refine bodyPost_ret (v := .tuple #[.bool false, .int .i64 0]) (by simp [results, Try.results48, go_sem]) rfl ?_
    exact ⟨SureR.of HE.out.1 HE.out.2, e4⟩
  · rw [Bool.true_and] at hp
    subst hp
    go_enter Try.func48, Try.ntmps48
    go_wp2_with (first
      | (go_at_call 31; ((with_reducible refine C1.out.mono ?_); rintro e w1 ⟨rfl, x1⟩))
      | (go_at_call 31; ((with_reducible refine (C2.out _ x1).mono ?_); rintro e w2 ⟨rfl, x2⟩; have e2 := x1.trans x2))
      | (go_at_call 58; refine (C3.out _ e2).mono ?_; rintro e w3 ⟨rfl, x3⟩; have e3 := e2.trans x3)
      | (go_at_call 107; ((with_reducible refine (C4.out _ e3).mono ?_); rintro e w4 ⟨rfl, x4⟩; have e4 := e3.trans x4))
      | (go_at_call 107; ((with_reducible refine (C5.out _ e4).mono ?_); rintro e w5 ⟨rfl, x5⟩; have e5 := e4.trans x5)))
    refine bodyPost_ret (v := .tuple #[.bool false, .int .i64 0]) (by simp [results, Try.results48, go_sem]) rfl ?_
    exact ⟨SureR.of HE.out.1 HE.out.2, e5⟩

include hf hb hd in
theorem pairSure_any : Calls Try.prog 48 #[.slice A n c, .slice A' n' c', .slice B m d] w fun e w' => SureR f b ds e ∧ Ext w w' := by
  by_cases h0 : (wrongRules f).1 = 0
  · by_cases h1 : (wrongRules b).1 = 0
    · by_cases h2 : wrongSet ds = 0
      · by_cases h3 : 40 < countL ds
        · exact pairSure4 A n c f A' n' c' b B m d ds w hf hb hd h0 h1 h2 h3
        · cases hp : (plainR f && plainR b)
          · exact pairSure5 A n c f A' n' c' b B m d ds w hf hb hd h0 h1 h2 h3 hp
          · simp only [Bool.and_eq_true] at hp
            exact pairSure_main A n c f A' n' c' b B m d ds w hf hb hd h0 h1 h2 h3 hp.1 hp.2
      · exact pairSure3 A n c f A' n' c' b B m d ds w hf hb hd h0 h1 h2
    · exact pairSure2 A n c f A' n' c' b B m d ds w hf hb h0 h1
  · exact pairSure1 A n c f A' n' c' b B m d ds w hf h0
end

end Go.Proofs.Ytfdkbhbnldcbmaa
