/- Walk of the document's Play. -/
import Derived.Test.YtpnflnocmekpnaaG8
import Derived.Test.YtpnflnocmekpnaaG11
import Derived.BigRegion
namespace Go.Proofs.Ytpnflnocmekpnaa
open Go.RowKit
set_option linter.unusedVariables false
set_option linter.unusedSimpArgs false

theorem OwnR.aside {e : TypeId} {base : Nat} {w w' : World} {v : Value} {l : List Int} {r : Option Nat} (o : OwnR rRune e 1 base w v l) (g : w.grownBy w' r) (h : ∀ b, v.ownBlock = some b → r ≠ some b) : OwnR rRune e 1 base w' v l :=
  o.keep (keep_rune bot) (fun _ hb _ => absurd hb id) (fun b hb => g.block b (o.lt b hb).2 (fun e => h b hb e.symm))

set_option maxRecDepth 100000 in
set_option maxHeartbeats 8000000 in
theorem refPlay_any {w : World} {X : Option Addr} {n0 c0 : Nat} {t0 : List Int} {A : Option Addr} {m c : Nat} {l : List Ed} (s0 : Runes w X n0 c0 t0) (h : Edits w A m c l) :
    Calls Try.prog 6 #[.slice X n0 c0, .slice A m c] w fun e w' => GapV w' (gapPlay t0 l) e ∧ Ext w w' := by
  have hl0 := s0.len
  have hml := h.len; have hmc := h.cap; have hmm := h.max; unfold maxLen at hmm
  by_cases hbig : 4000 < n0
  · have hp : gapPlay t0 l = ⟨[], 0, 4, 0⟩ := by unfold gapPlay; rw [if_pos (by omega)]
    have t1 : (4000 : Int) < (n0 : Int) := by omega
    have HP := Lib.hid hp; clear hp
    go_enter Try.func6, Try.ntmps6
    go_wp2
    have z0 := cell_new w #[.int .i64 4, .int .i64 0] 26 0 (.int .i64 4) rfl
    have z1 := cell_new w #[.int .i64 4, .int .i64 0] 26 1 (.int .i64 0) rfl
    refine bodyPost_ret (v := .tuple #[.slice none 0 0, .int .i64 0, .agg #[.int .i64 4, .int .i64 0]]) (by simp [results, Try.results6, go_sem, z0, z1]) rfl ?_
    rw [HP.out]
    exact ⟨⟨none, 0, rfl, SlR.nil _ _ _ _ _ _ (by simp [maxLen])⟩, (Ext.refl w).alloc _⟩
  · have t1 : decide ((4000 : Int) < (n0 : Int)) = false := by simp; omega
    have hp : gapPlay t0 l = gapGo 0 t0 0 l := by unfold gapPlay; rw [if_neg (by omega)]
    have hx1 := (Ext.refl w).alloc (.cells #[.int .i64 0, .int .i64 0] 26)
    have wr1 := Wr.new w #[.int .i64 0, .int .i64 0] 26
    have cz0 := cell_new w #[.int .i64 0, .int .i64 0] 26 0 (.int .i64 0) rfl
    have cz1 := cell_new w #[.int .i64 0, .int .i64 0] 26 1 (.int .i64 0) rfl
    have HP := Lib.hid hp; have S0 := Lib.hid (s0.ext hx1); have HE := Lib.hid (SlR.ext (keep_edit _) h hx1)
    have HX1 := Lib.hid hx1; have WR := Lib.hid wr1; have CZ := Lib.hid (And.intro cz0 cz1); have HML := Lib.hid hml
    clear hp s0 h hx1 wr1 cz0 cz1 hml
    go_enter Try.func6, Try.ntmps6
    go_upto_region 3 with fail
    generalize w.alloc (.cells #[.int .i64 0, .int .i64 0] 26) = w1 at *
    have hlt1 : w.heap.size < w1.heap.size := WR.out.1
    have oz := Lib.hid (OwnR.empty rRune 21 1 w1.heap.size w1 (Nat.le_refl _))
    have xz := Lib.hid ((Ext.refl w1).alloc (.cells #[] 21))
    have sz := Lib.hid (S0.out.ext xz.out)
    have h60 : n0 ≤ 60000 := by omega
    go_wp2_with (refine wpList_appS tRunes (by omega) rfl (.tmp 18) (.tmp 19) rfl rfl oz.out rfl sz.out (fun _ _ h => h) one_rune (keep_rune bot) (bot_no _) (by simpa using h60) xz.out.size ?_; intro v2 w2 o2 g2 _; have x2 := Lib.hid (xz.out.app g2 oz.out); obtain ⟨A2, c2, rfl, s2⟩ := o2.top; have S2 : Hid (Runes w2 A2 _ c2 t0) := Lib.hid (by simpa using s2); clear o2 g2 s2)
    clear S0
    have S2' : Hid (Runes w2 A2 n0 c2 t0) := Lib.hid (by have := S2.out; rw [hl0] at this; exact this)
    go_loopw [7, 8, 23] (fun v7 v8 i wr => ∃ k : Nat, k ≤ m ∧ i = .int .i64 k ∧ ∃ t n a AV cV, v7 = .slice AV n cV ∧ v8 = .int .i64 (a : Nat) ∧ Runes wr AV n cV t ∧ a ≤ n ∧ n ≤ 4000 ∧ Ext w1 wr ∧ gapPlay t0 l = gapGo k t a (l.drop k)) (fun _ _ i _ => m - (intOf i).toNat)
    case atStart => exact ⟨0, Nat.zero_le _, rfl, t0, n0, 0, A2, c2, rfl, rfl, S2'.out, Nat.zero_le _, by omega, x2.out, HP.out⟩
    case round =>
      obtain ⟨k, hk, rfl, t, n, a, AV, cV, rfl, rfl, hsv, han, hn4, hxr, hgo⟩ := hrel
      have HSV := Lib.hid hsv; have HXR := Lib.hid hxr; have HG := Lib.hid hgo
      have hcv := hsv.cap
      clear hsv hxr hgo
      by_cases hlt : k < m
      · obtain ⟨x, hx⟩ : ∃ x, l[k]? = some x := ⟨l[k]'(by rw [HML.out]; exact hlt), List.getElem?_eq_getElem _⟩
        have hE := SlR.ext (keep_edit _) HE.out HXR.out
        obtain ⟨b, off, A', n', c', rfl, ⟨_, bne⟩, h0, h1, h2, hs, hi0, hi1⟩ := hE.edit hx
        obtain ⟨kd, nu, pu⟩ := x
        simp only at h0 h1 h2 hs hi0 hi1
        have HS := Lib.hid hs; have HI := Lib.hid hx
        clear hE hs hx
        go_upto_region 8 with fail
        have q0 := cell_new wr #[.int .i64 kd, .int .i64 nu, .slice A' n' c'] 37 0 (.int .i64 kd) rfl
        have q1 := cell_new wr #[.int .i64 kd, .int .i64 nu, .slice A' n' c'] 37 1 (.int .i64 nu) rfl
        have q2 := cell_new wr #[.int .i64 kd, .int .i64 nu, .slice A' n' c'] 37 2 (.slice A' n' c') rfl
        have ex := (Ext.refl wr).alloc (.cells #[.int .i64 kd, .int .i64 nu, .slice A' n' c'] 37)
        have hs2 : Hid (Runes (wr.alloc (.cells #[.int .i64 kd, .int .i64 nu, .slice A' n' c'] 37)) A' n' c' pu) := Lib.hid (Runes.ext HS.out ex)
        have hsv2 := Lib.hid (Runes.ext HSV.out ex)
        have HXA := Lib.hid (HXR.out.trans ex)
        have heb : wr.heap.size < (wr.alloc (.cells #[.int .i64 kd, .int .i64 nu, .slice A' n' c'] 37)).heap.size := by simp
        generalize wr.alloc (.cells #[.int .i64 kd, .int .i64 nu, .slice A' n' c'] 37) = wa at *
        generalize wr.heap.size = eb at *
        clear h0 h1 h2 HS HSV HXR ex
        have Q := Lib.hid (And.intro q0 (And.intro q1 q2))
        clear q0 q1 q2
        have hc1 : ∀ W, (Instr.sliceAt 22 (.slice AV n cV) none (some (.int .i64 (a : Int))) none).run Try.prog W = .ok (.slice AV a cV) W := fun W => run_cut_h tRunes _ n cV a a rfl (by omega) W
        have hc2 : ∀ W, (Instr.sliceAt 22 (.slice AV n cV) (some (.int .i64 (a : Int))) none none).run Try.prog W = .ok (.slice (cutA AV cV a 1) (n - a) (cV - a)) W := fun W => run_cut_l tRunes _ n cV a a rfl (by omega) W
        go_upto_region 9 with fail
        go_cut [12, 13] from 28 to 37 (fun v12 v13 wx => OwnR rRune 21 1 wa.heap.size wx v12 (t.take a) ∧ OwnR rRune 21 1 wa.heap.size wx v13 (t.drop a) ∧ (∀ g, v12.ownBlock = some g → v13.ownBlock ≠ some g) ∧ Ext wa wx)
        case first =>
          have d0 := (Ext.refl wa).drew
          have SS1 : ∀ W : World, Ext wa W → Runes W AV a cV (t.take a) := fun W e => (Runes.ext hsv2.out e).take (by omega)
          have SS2 : ∀ W : World, Ext wa W → Runes W (cutA AV cV a 1) (n - a) (cV - a) (t.drop a) := fun W e => (Runes.ext hsv2.out e).drop (by omega)
          have oE : ∀ W : World, wa.heap.size ≤ W.heap.size → OwnR rRune 21 1 wa.heap.size (W.alloc (.cells #[] 21)) (.slice (some ⟨W.heap.size, 0, none⟩) 0 0) [] := fun W h => OwnR.empty _ _ _ _ W h
          have x1 := d0.alloc (.cells #[] 21)
          have x2' := x1.alloc (.cells #[] 21)
          have oa : OwnR rRune 21 1 wa.heap.size (wa.drew.alloc (.cells #[] 21)) (.slice (some ⟨wa.heap.size, 0, none⟩) 0 0) [] := oE wa.drew (Nat.le_refl _)
          have oax : OwnR rRune 21 1 wa.heap.size ((wa.drew.alloc (.cells #[] 21)).alloc (.cells #[] 21)) (.slice (some ⟨wa.heap.size, 0, none⟩) 0 0) [] := oa.ext (keep_rune bot) ((Ext.refl _).alloc _)
          have ob : OwnR rRune 21 1 wa.heap.size ((wa.drew.alloc (.cells #[] 21)).alloc (.cells #[] 21)) (.slice (some ⟨wa.heap.size + 1, 0, none⟩) 0 0) [] := by
            have := oE (wa.drew.alloc (.cells #[] 21)) (by simp)
            rwa [World.size_alloc] at this
          have hb1 : a ≤ 60000 := by omega
          have hb2 : n - a ≤ 60000 := by omega
          go_region_law (first
              | (refine step_appS tRunes (by omega) rfl (.tmp 28) (.tmp 31) rfl rfl oa rfl (SS1 _ x1) (fun _ _ h => h) one_rune (keep_rune bot) (bot_no _) ?_ x1.size ?_
                 · simp; omega
                 intro v1 w1 o1 g1 h1
                 have y1 := x1.app g1 oa
                 replace g1 : World.grownBy _ w1 (some (wa.heap.size)) := g1
                 replace h1 : v1.ownBlock = some (wa.heap.size) ∨ v1.ownBlock = some _ := h1
                 simp only [List.nil_append] at o1)
              | (refine step_appS tRunes (by omega) rfl (.tmp 28) (.tmp 31) rfl rfl oax rfl (SS1 _ x2') (fun _ _ h => h) one_rune (keep_rune bot) (bot_no _) ?_ x2'.size ?_
                 · simp; omega
                 intro v1 w1 o1 g1 h1
                 have y1 := x2'.app g1 oax
                 replace g1 : World.grownBy _ w1 (some (wa.heap.size)) := g1
                 replace h1 : v1.ownBlock = some (wa.heap.size) ∨ v1.ownBlock = some _ := h1
                 simp only [List.nil_append] at o1
                 have op := ob.aside g1 (fun b hb => by simp [Value.ownBlock] at hb ⊢; omega)
                 have hd1 : ∀ g, v1.ownBlock = some g → (Value.slice (some ⟨wa.heap.size + 1, 0, none⟩) 0 0).ownBlock ≠ some g := fun g hg => by
                   rcases h1 with h1 | h1
                   · rw [h1] at hg; simp [Value.ownBlock] at hg ⊢; omega
                   · rw [h1] at hg; simp [Value.ownBlock] at hg ⊢; omega)
              | (refine step_appS tRunes (by omega) rfl (.tmp 28) (.tmp 31) rfl rfl ob rfl (SS1 _ x2') (fun _ _ h => h) one_rune (keep_rune bot) (bot_no _) ?_ x2'.size ?_
                 · simp; omega
                 intro v1 w1 o1 g1 h1
                 have y1 := x2'.app g1 ob
                 replace g1 : World.grownBy _ w1 (some (wa.heap.size + 1)) := g1
                 replace h1 : v1.ownBlock = some (wa.heap.size + 1) ∨ v1.ownBlock = some _ := h1
                 simp only [List.nil_append] at o1
                 have op := oax.aside g1 (fun b hb => by simp [Value.ownBlock] at hb ⊢; omega)
                 have hd1 : ∀ g, v1.ownBlock = some g → (Value.slice (some ⟨wa.heap.size, 0, none⟩) 0 0).ownBlock ≠ some g := fun g hg => by
                   rcases h1 with h1 | h1
                   · rw [h1] at hg; simp [Value.ownBlock] at hg ⊢; omega
                   · rw [h1] at hg; simp [Value.ownBlock] at hg ⊢; omega)
              | (refine step_appS tRunes (by omega) rfl (.tmp 33) (.tmp 36) rfl rfl oa rfl (SS2 _ x1) (fun _ _ h => h) one_rune (keep_rune bot) (bot_no _) ?_ x1.size ?_
                 · simp; omega
                 intro v1 w1 o1 g1 h1
                 have y1 := x1.app g1 oa
                 replace g1 : World.grownBy _ w1 (some (wa.heap.size)) := g1
                 replace h1 : v1.ownBlock = some (wa.heap.size) ∨ v1.ownBlock = some _ := h1
                 simp only [List.nil_append] at o1)
              | (refine step_appS tRunes (by omega) rfl (.tmp 33) (.tmp 36) rfl rfl oax rfl (SS2 _ x2') (fun _ _ h => h) one_rune (keep_rune bot) (bot_no _) ?_ x2'.size ?_
                 · simp; omega
                 intro v1 w1 o1 g1 h1
                 have y1 := x2'.app g1 oax
                 replace g1 : World.grownBy _ w1 (some (wa.heap.size)) := g1
                 replace h1 : v1.ownBlock = some (wa.heap.size) ∨ v1.ownBlock = some _ := h1
                 simp only [List.nil_append] at o1
                 have op := ob.aside g1 (fun b hb => by simp [Value.ownBlock] at hb ⊢; omega)
                 have hd1 : ∀ g, v1.ownBlock = some g → (Value.slice (some ⟨wa.heap.size + 1, 0, none⟩) 0 0).ownBlock ≠ some g := fun g hg => by
                   rcases h1 with h1 | h1
                   · rw [h1] at hg; simp [Value.ownBlock] at hg ⊢; omega
                   · rw [h1] at hg; simp [Value.ownBlock] at hg ⊢; omega)
              | (refine step_appS tRunes (by omega) rfl (.tmp 33) (.tmp 36) rfl rfl ob rfl (SS2 _ x2') (fun _ _ h => h) one_rune (keep_rune bot) (bot_no _) ?_ x2'.size ?_
                 · simp; omega
                 intro v1 w1 o1 g1 h1
                 have y1 := x2'.app g1 ob
                 replace g1 : World.grownBy _ w1 (some (wa.heap.size + 1)) := g1
                 replace h1 : v1.ownBlock = some (wa.heap.size + 1) ∨ v1.ownBlock = some _ := h1
                 simp only [List.nil_append] at o1
                 have op := oax.aside g1 (fun b hb => by simp [Value.ownBlock] at hb ⊢; omega)
                 have hd1 : ∀ g, v1.ownBlock = some g → (Value.slice (some ⟨wa.heap.size, 0, none⟩) 0 0).ownBlock ≠ some g := fun g hg => by
                   rcases h1 with h1 | h1
                   · rw [h1] at hg; simp [Value.ownBlock] at hg ⊢; omega
                   · rw [h1] at hg; simp [Value.ownBlock] at hg ⊢; omega)
              | (refine step_appS tRunes (by omega) rfl (.tmp 33) (.tmp 36) rfl rfl (oE w1 y1.size) rfl (SS2 _ (y1.alloc (.cells #[] 21))) (fun _ _ h => h) one_rune (keep_rune bot) (bot_no _) ?_ (y1.alloc (.cells #[] 21)).size ?_
                 · simp; omega
                 intro v2 w2 o2 g2 h2
                 have yF := (y1.alloc (.cells #[] 21)).app g2 (oE w1 y1.size)
                 replace g2 : World.grownBy _ w2 (some w1.heap.size) := g2
                 replace h2 : v2.ownBlock = some w1.heap.size ∨ v2.ownBlock = some _ := h2
                 simp only [List.nil_append] at o2
                 have oF12 := (o1.ext (keep_rune bot) ((Ext.refl w1).alloc (.cells #[] 21))).aside g2 (fun b hb => by have := (o1.lt b hb).2; simp; omega)
                 have oF13 := o2
                 have dF : ∀ g, v1.ownBlock = some g → v2.ownBlock ≠ some g := fun g hg => by
                   have := (o1.lt g hg).2
                   rcases h2 with h2 | h2
                   · rw [h2]; simp; omega
                   · rw [h2]; simp; omega)
              | (refine step_appS tRunes (by omega) rfl (.tmp 33) (.tmp 36) rfl rfl op rfl (SS2 _ y1) (fun _ _ h => h) one_rune (keep_rune bot) (bot_no _) ?_ y1.size ?_
                 · simp; omega
                 intro v2 w2 o2 g2 h2
                 have yF := y1.app g2 op
                 simp only [List.nil_append] at o2
                 have oF12 := o1.aside g2 (fun b hb => hd1 b hb)
                 have oF13 := o2
                 have dF : ∀ g, v1.ownBlock = some g → v2.ownBlock ≠ some g := fun g hg => by
                   have := (o1.lt g hg).2
                   rcases h2 with h2 | h2
                   · rw [h2]; exact hd1 g hg
                   · rw [h2]; simp; omega)
              | (refine step_appS tRunes (by omega) rfl (.tmp 28) (.tmp 31) rfl rfl (oE w1 y1.size) rfl (SS1 _ (y1.alloc (.cells #[] 21))) (fun _ _ h => h) one_rune (keep_rune bot) (bot_no _) ?_ (y1.alloc (.cells #[] 21)).size ?_
                 · simp; omega
                 intro v2 w2 o2 g2 h2
                 have yF := (y1.alloc (.cells #[] 21)).app g2 (oE w1 y1.size)
                 replace g2 : World.grownBy _ w2 (some w1.heap.size) := g2
                 replace h2 : v2.ownBlock = some w1.heap.size ∨ v2.ownBlock = some _ := h2
                 simp only [List.nil_append] at o2
                 have oF13 := (o1.ext (keep_rune bot) ((Ext.refl w1).alloc (.cells #[] 21))).aside g2 (fun b hb => by have := (o1.lt b hb).2; simp; omega)
                 have oF12 := o2
                 have dF : ∀ g, v1.ownBlock = some g → v2.ownBlock ≠ some g := fun g hg => by
                   have := (o1.lt g hg).2
                   rcases h2 with h2 | h2
                   · rw [h2]; simp; omega
                   · rw [h2]; simp; omega)
              | (refine step_appS tRunes (by omega) rfl (.tmp 28) (.tmp 31) rfl rfl op rfl (SS1 _ y1) (fun _ _ h => h) one_rune (keep_rune bot) (bot_no _) ?_ y1.size ?_
                 · simp; omega
                 intro v2 w2 o2 g2 h2
                 have yF := y1.app g2 op
                 simp only [List.nil_append] at o2
                 have oF13 := o1.aside g2 (fun b hb => hd1 b hb)
                 have oF12 := o2
                 have dF : ∀ g, v1.ownBlock = some g → v2.ownBlock ≠ some g := fun g hg => by
                   have := (o1.lt g hg).2
                   rcases h2 with h2 | h2
                   · rw [h2]; exact hd1 g hg
                   · rw [h2]; simp; omega))
          all_goals
            go_wp2_with fail
            go_meet
            exact ⟨oF12, oF13, fun g hg => by first | exact dF g hg | exact fun h => dF g h hg, yF⟩
        case rest =>
          obtain ⟨o12, o13, dd, xc⟩ := hcut
          have Q' := Q.out
          have q0 := xc.cell Q'.1; have q1 := xc.cell Q'.2.1; have q2 := xc.cell Q'.2.2
          have HTL := Lib.hid hsv2.out.len
          have hl12 : (t.take a).length = a := by rw [List.length_take, HTL.out]; omega
          have hl13 : (t.drop a).length = n - a := by rw [List.length_drop, HTL.out]
          obtain ⟨A12, c12, rfl, s12⟩ := o12.top
          obtain ⟨A13, c13, rfl, s13⟩ := o13.top
          rw [hl12] at o12 dd s12 ⊢
          rw [hl13] at o13 dd s13 ⊢
          have XC := Lib.hid xc
          have HXC := Lib.hid (HXA.out.trans xc)
          have f0 := HXC.out.cell CZ.out.1; have f1 := HXC.out.cell CZ.out.2; have ff := (WR.out.ext HXC.out).2
          have O12 := Lib.hid o12; have O13 := Lib.hid o13; have DD := Lib.hid dd; have S13 := Lib.hid s13; have S12 := Lib.hid s12
          have SPU := Lib.hid (Runes.ext hs2.out xc)
          have HPL := Lib.hid hs2.out.len
          have HL12 := Lib.hid hl12; have HL13 := Lib.hid hl13
          clear o12 o13 dd s12 s13 Q' xc hl12 hl13
          have bad : ∀ b : Int, gapBad t a ⟨kd, nu, pu⟩ = b → b ≠ 0 → gapPlay t0 l = ⟨[], 0, b, k⟩ := fun b h1 h2 => by rw [HG.out]; exact gapGo_bad HI.out h1 h2
          have BAD := Lib.hid bad; clear bad
          have hn'b := hi1.2
          by_cases k1 : kd < 1
          · have HR := Lib.hid (BAD.out 1 (by rw [gapBad_eq, if_pos (.inl k1)]) (by omega))
            have e1 : (kd == 1) = false := by simp; omega
            have e2 : (kd == 2) = false := by simp; omega
            have e3 : (kd == 3) = false := by simp; omega
            have e4 : (kd == 4) = false := by simp; omega
            clear BAD HG HI
            go_wp2
            obtain ⟨z0, z1⟩ := fault_set (u := 1) (v := (k : Int)) f0 f1
            refine bodyPost_ret (v := .tuple #[.slice none 0 0, .int .i64 0, .agg #[.int .i64 1, .int .i64 (k : Int)]]) (by simp [results, Try.results6, go_sem, z0, z1]) rfl ?_
            rw [HR.out]
            exact play_fin (r := ⟨[], 0, 1, k⟩) (Nat.le_refl _) (HX1.out.trans HXC.out) f0 f1 rfl (SlR.nil _ _ _ _ _ _ (by simp [maxLen])) rfl rfl rfl
          by_cases k2 : 4 < kd
          · have HR := Lib.hid (BAD.out 1 (by rw [gapBad_eq, if_pos (.inr k2)]) (by omega))
            have e1 : (kd == 1) = false := by simp; omega
            have e2 : (kd == 2) = false := by simp; omega
            have e3 : (kd == 3) = false := by simp; omega
            have e4 : (kd == 4) = false := by simp; omega
            clear BAD HG HI
            go_wp2
            obtain ⟨z0, z1⟩ := fault_set (u := 1) (v := (k : Int)) f0 f1
            refine bodyPost_ret (v := .tuple #[.slice none 0 0, .int .i64 0, .agg #[.int .i64 1, .int .i64 (k : Int)]]) (by simp [results, Try.results6, go_sem, z0, z1]) rfl ?_
            rw [HR.out]
            exact play_fin (r := ⟨[], 0, 1, k⟩) (Nat.le_refl _) (HX1.out.trans HXC.out) f0 f1 rfl (SlR.nil _ _ _ _ _ _ (by simp [maxLen])) rfl rfl rfl
          obtain rfl | rfl | rfl | rfl : kd = 1 ∨ kd = 2 ∨ kd = 3 ∨ kd = 4 := by omega
          · clear k1 k2
            by_cases gn : nu < 0
            · have HR := Lib.hid (BAD.out 3 (by rw [gapBad_eq, if_neg (by omega), if_neg (by omega), if_pos (.inl gn)]) (by omega))
              clear BAD HG HI
              go_wp2
              obtain ⟨z0, z1⟩ := fault_set (u := 3) (v := (k : Int)) f0 f1
              refine bodyPost_ret (v := .tuple #[.slice none 0 0, .int .i64 0, .agg #[.int .i64 3, .int .i64 (k : Int)]]) (by simp [results, Try.results6, go_sem, z0, z1]) rfl ?_
              rw [HR.out]
              exact play_fin (r := ⟨[], 0, 3, k⟩) (Nat.le_refl _) (HX1.out.trans HXC.out) f0 f1 rfl (SlR.nil _ _ _ _ _ _ (by simp [maxLen])) rfl rfl rfl
            obtain ⟨N, rfl⟩ : ∃ N : Nat, nu = (N : Int) := ⟨nu.toNat, by omega⟩
            have gnf : decide ((N : Int) < 0) = false := by simp
            by_cases g : n < N
            · have gt : ((n : Nat) : Int) < (N : Int) := by omega
              have HR := Lib.hid (BAD.out 3 (by rw [gapBad_eq, if_neg (by omega), if_neg (by omega), if_pos (.inr (.inl ⟨rfl, by rw [HTL.out]; exact gt⟩))]) (by omega))
              clear BAD HG HI
              go_wp2
              obtain ⟨z0, z1⟩ := fault_set (u := 3) (v := (k : Int)) f0 f1
              refine bodyPost_ret (v := .tuple #[.slice none 0 0, .int .i64 0, .agg #[.int .i64 3, .int .i64 (k : Int)]]) (by simp [results, Try.results6, go_sem, z0, z1]) rfl ?_
              rw [HR.out]
              exact play_fin (r := ⟨[], 0, 3, k⟩) (Nat.le_refl _) (HX1.out.trans HXC.out) f0 f1 rfl (SlR.nil _ _ _ _ _ _ (by simp [maxLen])) rfl rfl rfl
            have gt : decide (((n : Nat) : Int) < (N : Int)) = false := by simp; omega
            have HG2 := Lib.hid (HG.out.trans (gapGo_on HI.out (by rw [gapBad_eq, if_neg (by omega), if_neg (by omega), if_neg (by rw [HTL.out]; omega)]) (t' := t) (a' := N) (by rw [gapDo_eq, if_pos rfl, Int.toNat_natCast])))
            clear BAD HG HI
            have S0' := Lib.hid (Runes.ext hsv2.out XC.out)
            go_wp2
            go_roundw
            case rel => exact ⟨k + 1, by omega, by go_num, t, n, N, AV, cV, rfl, rfl, S0'.out, by omega, hn4, HXC.out, HG2.out⟩
            case measure => simp [intOf]; omega
          · clear k1 k2
            have hw4 : IntKind.i64.wrap ((n : Int) + (n' : Int)) = ((n + n' : Nat) : Int) := by rw [IntWalk.i64_in _ (by omega)]; omega
            by_cases g : 4000 < n + n'
            · have gt : (4000 : Int) < ((n + n' : Nat) : Int) := by omega
              have HR := Lib.hid (BAD.out 4 (by rw [gapBad_eq, if_neg (by omega), if_pos rfl, if_pos (by rw [HTL.out, HPL.out]; exact g)]) (by omega))
              clear BAD HG HI
              go_wp2
              obtain ⟨z0, z1⟩ := fault_set (u := 4) (v := (k : Int)) f0 f1
              refine bodyPost_ret (v := .tuple #[.slice none 0 0, .int .i64 0, .agg #[.int .i64 4, .int .i64 (k : Int)]]) (by simp [results, Try.results6, go_sem, z0, z1]) rfl ?_
              rw [HR.out]
              exact play_fin (r := ⟨[], 0, 4, k⟩) (Nat.le_refl _) (HX1.out.trans HXC.out) f0 f1 rfl (SlR.nil _ _ _ _ _ _ (by simp [maxLen])) rfl rfl rfl
            have gt : decide ((4000 : Int) < ((n + n' : Nat) : Int)) = false := by simp; omega
            have HG2 := Lib.hid (HG.out.trans (gapGo_on HI.out (by rw [gapBad_eq, if_neg (by omega), if_pos rfl, if_neg (by rw [HTL.out, HPL.out]; exact g)]) (t' := t.take a ++ pu ++ t.drop a) (a' := a + n') (by rw [gapDo_eq, if_neg (by omega), if_pos rfl, HPL.out])))
            clear BAD HG HI
            have hwa : IntKind.i64.wrap ((a : Int) + (n' : Int)) = ((a + n' : Nat) : Int) := by rw [IntWalk.i64_in _ (by omega)]; omega
            go_wp2_with (first
              | (refine wpList_appS tRunes (by omega) rfl (.tmp 63) (.tmp 65) rfl rfl O12.out rfl SPU.out (fun _ _ h => h) one_rune (keep_rune bot) (bot_no _) (by rw [HL12.out]; omega) XC.out.size ?_
                 intro v3 w3 o3 g3 h3
                 have X3 := Lib.hid (XC.out.app g3 O12.out)
                 have O3 := Lib.hid o3
                 have s3 := Lib.hid ((O13.out.aside g3 (fun b hb h => DD.out b h hb)).top)
                 have S3 : Hid (Runes w3 A13 (n - a) c13 (t.drop a)) := Lib.hid (by obtain ⟨AA, cc, e, s⟩ := s3.out; rw [HL13.out] at e s; simp only [Value.slice.injEq] at e; obtain ⟨rfl, _, rfl⟩ := e; exact s)
                 clear o3 g3 h3 s3)
              | (refine wpList_appS tRunes (by omega) rfl (.tmp 66) (.tmp 67) rfl rfl O3.out rfl S3.out (fun _ _ h => h) one_rune (keep_rune bot) (bot_no _) (by rw [List.length_append, HL12.out, HPL.out]; omega) X3.out.size ?_
                 intro v4 w4 o4 g4 h4
                 have X4 := Lib.hid (X3.out.app g4 O3.out)
                 have q2 := X4.out.cell Q.out.2.2
                 obtain ⟨A4, c4, rfl, s4⟩ := o4.top
                 have hq5 : (t.take a ++ pu ++ t.drop a).length = n + n' := by simp only [List.length_append]; rw [HL12.out, HL13.out, HPL.out]; omega
                 have S4 : Hid (Runes w4 A4 (n + n') c4 (t.take a ++ pu ++ t.drop a)) := Lib.hid (by rw [hq5] at s4; exact s4)
                 rw [hq5]
                 clear o4 g4 h4 s4 hq5))
            go_roundw
            case rel => exact ⟨k + 1, by omega, by go_num, _, n + n', a + n', A4, c4, rfl, rfl, S4.out, by omega, by omega, HXA.out.trans X4.out, HG2.out⟩
            case measure => simp [intOf]; omega
          · clear k1 k2
            by_cases gn : nu < 0
            · have HR := Lib.hid (BAD.out 3 (by rw [gapBad_eq, if_neg (by omega), if_neg (by omega), if_pos (.inl gn)]) (by omega))
              clear BAD HG HI
              go_wp2
              obtain ⟨z0, z1⟩ := fault_set (u := 3) (v := (k : Int)) f0 f1
              refine bodyPost_ret (v := .tuple #[.slice none 0 0, .int .i64 0, .agg #[.int .i64 3, .int .i64 (k : Int)]]) (by simp [results, Try.results6, go_sem, z0, z1]) rfl ?_
              rw [HR.out]
              exact play_fin (r := ⟨[], 0, 3, k⟩) (Nat.le_refl _) (HX1.out.trans HXC.out) f0 f1 rfl (SlR.nil _ _ _ _ _ _ (by simp [maxLen])) rfl rfl rfl
            obtain ⟨N, rfl⟩ : ∃ N : Nat, nu = (N : Int) := ⟨nu.toNat, by omega⟩
            have gnf : decide ((N : Int) < 0) = false := by simp
            by_cases g : n - a < N
            · have gt : ((n - a : Nat) : Int) < (N : Int) := by omega
              have HR := Lib.hid (BAD.out 3 (by rw [gapBad_eq, if_neg (by omega), if_neg (by omega), if_pos (.inr (.inr (.inl ⟨rfl, by rw [HTL.out]; exact gt⟩)))]) (by omega))
              clear BAD HG HI
              go_wp2
              obtain ⟨z0, z1⟩ := fault_set (u := 3) (v := (k : Int)) f0 f1
              refine bodyPost_ret (v := .tuple #[.slice none 0 0, .int .i64 0, .agg #[.int .i64 3, .int .i64 (k : Int)]]) (by simp [results, Try.results6, go_sem, z0, z1]) rfl ?_
              rw [HR.out]
              exact play_fin (r := ⟨[], 0, 3, k⟩) (Nat.le_refl _) (HX1.out.trans HXC.out) f0 f1 rfl (SlR.nil _ _ _ _ _ _ (by simp [maxLen])) rfl rfl rfl
            have gt : decide (((n - a : Nat) : Int) < (N : Int)) = false := by simp; omega
            have HG2 := Lib.hid (HG.out.trans (gapGo_on HI.out (by rw [gapBad_eq, if_neg (by omega), if_neg (by omega), if_neg (by rw [HTL.out]; omega)]) (t' := t.take a ++ t.drop (a + N)) (a' := a) (by rw [gapDo_eq, if_neg (by omega), if_neg (by omega), if_pos rfl, Int.toNat_natCast])))
            clear BAD HG HI
            have hc3 : ∀ W, (Instr.sliceAt 22 (.slice A13 (n - a) c13) (some (.int .i64 (N : Int))) none none).run Try.prog W = .ok (.slice (cutA A13 c13 N 1) (n - a - N) (c13 - N)) W := fun W => run_cut_l tRunes _ _ _ N N rfl (by omega) W
            have SD := Lib.hid (S13.out.drop (lo := N) (by omega))
            go_wp2_with (refine wpList_appS tRunes (by omega) rfl (.tmp 86) (.tmp 90) rfl rfl O12.out rfl SD.out (fun _ _ h => h) one_rune (keep_rune bot) (bot_no _) (by rw [HL12.out]; omega) XC.out.size ?_; intro v4 w4 o4 g4 h4; have X4 := Lib.hid (XC.out.app g4 O12.out); obtain ⟨A4, c4, rfl, s4⟩ := o4.top; have hq5 : (t.take a ++ (t.drop a).drop N).length = n - N := (by rw [List.length_append, HL12.out, List.length_drop, HL13.out]; omega); have S4 : Hid (Runes w4 A4 (n - N) c4 (t.take a ++ t.drop (a + N))) := Lib.hid (by rw [hq5, List.drop_drop] at s4; exact s4); rw [hq5]; clear o4 g4 h4 s4 hq5)
            go_roundw
            case rel => exact ⟨k + 1, by omega, by go_num, _, n - N, a, A4, c4, rfl, rfl, S4.out, by omega, by omega, HXA.out.trans X4.out, HG2.out⟩
            case measure => simp [intOf]; omega
          · clear k1 k2
            by_cases gn : nu < 0
            · have HR := Lib.hid (BAD.out 3 (by rw [gapBad_eq, if_neg (by omega), if_neg (by omega), if_pos (.inl gn)]) (by omega))
              clear BAD HG HI
              go_wp2
              obtain ⟨z0, z1⟩ := fault_set (u := 3) (v := (k : Int)) f0 f1
              refine bodyPost_ret (v := .tuple #[.slice none 0 0, .int .i64 0, .agg #[.int .i64 3, .int .i64 (k : Int)]]) (by simp [results, Try.results6, go_sem, z0, z1]) rfl ?_
              rw [HR.out]
              exact play_fin (r := ⟨[], 0, 3, k⟩) (Nat.le_refl _) (HX1.out.trans HXC.out) f0 f1 rfl (SlR.nil _ _ _ _ _ _ (by simp [maxLen])) rfl rfl rfl
            obtain ⟨N, rfl⟩ : ∃ N : Nat, nu = (N : Int) := ⟨nu.toNat, by omega⟩
            have gnf : decide ((N : Int) < 0) = false := by simp
            by_cases g : a < N
            · have gt : ((a : Nat) : Int) < (N : Int) := by omega
              have HR := Lib.hid (BAD.out 3 (by rw [gapBad_eq, if_neg (by omega), if_neg (by omega), if_pos (.inr (.inr (.inr ⟨rfl, gt⟩)))]) (by omega))
              clear BAD HG HI
              go_wp2
              obtain ⟨z0, z1⟩ := fault_set (u := 3) (v := (k : Int)) f0 f1
              refine bodyPost_ret (v := .tuple #[.slice none 0 0, .int .i64 0, .agg #[.int .i64 3, .int .i64 (k : Int)]]) (by simp [results, Try.results6, go_sem, z0, z1]) rfl ?_
              rw [HR.out]
              exact play_fin (r := ⟨[], 0, 3, k⟩) (Nat.le_refl _) (HX1.out.trans HXC.out) f0 f1 rfl (SlR.nil _ _ _ _ _ _ (by simp [maxLen])) rfl rfl rfl
            have gt : decide (((a : Nat) : Int) < (N : Int)) = false := by simp; omega
            have HG2 := Lib.hid (HG.out.trans (gapGo_on HI.out (by rw [gapBad_eq, if_neg (by omega), if_neg (by omega), if_neg (by rw [HTL.out]; omega)]) (t' := t.take (a - N) ++ t.drop a) (a' := a - N) (by rw [gapDo_eq, if_neg (by omega), if_neg (by omega), if_neg (by omega), Int.toNat_natCast])))
            clear BAD HG HI
            have hw4 : IntKind.i64.wrap ((a : Int) - (N : Int)) = ((a - N : Nat) : Int) := by rw [IntWalk.i64_in _ (by omega)]; omega
            have hcp := S12.out.cap
            have hc4 := fun W => run_cut_hm tRunes A12 a c12 ((a - N : Nat) : Int) (a - N) rfl (by omega) W
            obtain ⟨sf, hA4⟩ := full_take (k := a - N) S12.out (by omega)
            rw [List.take_take, Nat.min_eq_left (by omega)] at sf
            have SF := Lib.hid sf; clear sf
            go_wp2_with (refine wpList_appFull tRunes (by omega) rfl (.tmp 111) (.tmp 112) rfl rfl rfl SF.out S13.out hA4 (by omega) ?_; intro A4 c4 w4 s4 x4; have S4 := Lib.hid s4; have X4 := Lib.hid (HXC.out.trans x4); clear s4 x4)
            go_roundw
            case rel => exact ⟨k + 1, by omega, by go_num, _, a - N + (n - a), a - N, A4, c4, rfl, rfl, S4.out, by omega, by omega, X4.out, HG2.out⟩
            case measure => simp [intOf]; omega
      · have hkm : k = m := by omega
        subst hkm
        have HR := Lib.hid (HG.out.trans (gapGo_end (by rw [HML.out]; exact Nat.le_refl _)))
        have f0 := HXR.out.cell CZ.out.1; have f1 := HXR.out.cell CZ.out.2; have ff := (WR.out.ext HXR.out).2
        clear HG hlt hk
        go_wp2
        obtain ⟨z0, z1⟩ := fault_set (u := 0) (v := 0) f0 f1
        refine bodyPost_ret (v := .tuple #[.slice AV n cV, .int .i64 (a : Int), .agg #[.int .i64 0, .int .i64 0]]) (by simp [results, Try.results6, go_sem, z0, z1]) rfl ?_
        rw [HR.out]
        exact play_fin (r := ⟨t, a, 0, 0⟩) (Nat.le_refl _) (HX1.out.trans HXR.out) f0 f1 HSV.out.len HSV.out rfl rfl rfl

end Go.Proofs.Ytpnflnocmekpnaa
