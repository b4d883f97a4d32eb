/- Walk: sorted spans are put together. -/
import Derived.Test.YtfdkbhbnldcbmaaW30
import Derived.Test.YtfdkbhbnldcbmaaLibS
import Derived.Test.YtfdkbhbnldcbmaaPlay
import Derived.RegionTactic
import Derived.StillTailTactics
import Derived.Deep.Cut
import Derived.Deep.CutRange
namespace Go.Proofs.Ytfdkbhbnldcbmaa
open Go.RowKit
set_option linter.unusedVariables false
set_option linter.unusedSimpArgs false

/-- one span more, as the code has it: onto the last one, or behind it -/
def mergeStep (out : List Sp) (x : Sp) : List Sp := match out.getLast? with
  | none => out ++ [x]
  | some z => if x.lo ≤ z.hi + 1 then out.dropLast ++ [⟨z.lo, max z.hi x.hi⟩] else out ++ [x]
def mergeAll (out : List Sp) : List Sp → List Sp
  | [] => out
  | x :: l => mergeAll (mergeStep out x) l
theorem mergeStep_last (o : List Sp) (z x : Sp) : mergeStep (o ++ [z]) x = if x.lo ≤ z.hi + 1 then o ++ [⟨z.lo, max z.hi x.hi⟩] else o ++ [z] ++ [x] := by
  unfold mergeStep; simp
theorem mergeAll_from : ∀ (l : List Sp) (o : List Sp) (c : Sp), mergeAll (o ++ [c]) l = o ++ mergeFrom c l
  | [], o, c => rfl
  | x :: l, o, c => by
    unfold mergeAll mergeFrom
    rw [mergeStep_last]
    by_cases h : x.lo ≤ c.hi + 1
    · rw [if_pos h, if_pos h, mergeAll_from l o]
    · rw [if_neg h, if_neg h, mergeAll_from l (o ++ [c]), List.append_assoc]; rfl
theorem mergeAll_nil (l : List Sp) : mergeAll [] l = mergedL l := by
  cases l with
  | nil => rfl
  | cons x l => exact mergeAll_from l [] x
theorem mergeStep_len (out : List Sp) (x : Sp) : (mergeStep out x).length ≤ out.length + 1 := by
  unfold mergeStep
  cases out.getLast? with
  | none => simp
  | some z =>
    simp only []
    split
    · simp only [List.length_append, List.length_dropLast, List.length_cons, List.length_nil]; omega
    · simp

theorem Enc.snoc_inv {α : Type} {R : World → List Value → α → Prop} {sz : Nat} {w : World} : ∀ {xs : List Value} {l : List α} {x : α}, Enc R sz w xs (l ++ [x]) → ∃ ys vs, xs = ys ++ vs ∧ vs.length = sz ∧ R w vs x ∧ Enc R sz w ys l
  | xs, [], x, h => by
    obtain ⟨vs, r, rfl, h1, h2, h3⟩ := h
    simp only [Enc] at h3
    subst h3
    exact ⟨[], vs, by simp, h1, h2, rfl⟩
  | xs, y :: l, x, h => by
    obtain ⟨vs, r, rfl, h1, h2, h3⟩ := h
    obtain ⟨ys, vs', rfl, k1, k2, k3⟩ := Enc.snoc_inv h3
    exact ⟨vs ++ ys, vs', by simp, k1, k2, vs, ys, rfl, h1, h2, k3⟩
theorem heap_setRow {w : World} {g i : Nat} {v : Value} {cur : Array Value} {e : TypeId} {fz : Nat × Nat} (hh : w.heap[g]? = some (.cells cur e fz)) : (w.setCell ⟨g, i, none⟩ v).heap[g]? = some (.cells (cur.setIfInBounds i v) e fz) := by
  simp [World.setCell, Array.getElem?_modify, hh]
/-- a row's last element is laid anew -/
theorem OwnR.setLast {e : TypeId} {base : Nat} {w : World} {A : Option Addr} {m g c : Nat} {o : List Sp} {z : Sp} {v : Int} (h : OwnR rSpan e 2 base w (.slice A m c) (o ++ [z])) (hA : A = some ⟨g, 0, none⟩) (hv : i32 v) :
    OwnR rSpan e 2 base (w.setCell ⟨g, o.length * 2 + 1, none⟩ (.int .i32 v)) (.slice A m c) (o ++ [⟨z.lo, v⟩]) := by
  subst hA
  obtain ⟨xs, ⟨hl, hcase⟩, he⟩ := h
  obtain ⟨ys, vs, rfl, k1, ⟨rfl, k2, k3⟩, k4⟩ := he.snoc_inv
  have ky := k4.len
  have hlen : (o ++ [z]).length = o.length + 1 := by simp
  have hlen2 : (o ++ [(⟨z.lo, v⟩ : Sp)]).length = o.length + 1 := by simp
  rw [hlen] at hl hcase
  rcases hcase with ⟨hn, _⟩ | ⟨g', cap, cur, hn, hb, hh, h1, h2, h3, h4⟩
  · cases hn
  · simp only [Value.slice.injEq, Option.some.injEq, Addr.mk.injEq, and_true] at hn
    obtain ⟨rfl, rfl, rfl⟩ := hn
    have hw : Enc rSpan 2 (w.setCell ⟨g, o.length * 2 + 1, none⟩ (.int .i32 v)) ys o := k4.keep (ok := bot) (keep_span bot) (fun _ hb => hb.elim)
    refine ⟨ys ++ [.int .i32 z.lo, .int .i32 v], ⟨by rw [hlen2]; simp; omega, .inr ⟨g, c, cur.setIfInBounds (o.length * 2 + 1) (.int .i32 v), by rw [hlen2], hb, heap_setRow hh, by rw [hlen2]; exact h1, h2, by simpa using h3, ?_⟩⟩, ?_⟩
    · rw [Array.toList_setIfInBounds, hlen2, List.take_set, h4, ← ky]
      simp
    · exact hw.append (Enc.sing (by rfl) ⟨rfl, k2, hv⟩)

theorem span_new (w : World) (x : Sp) (t : TypeId) (h1 : i32 x.lo) (h2 : i32 x.hi) : Spans (w.alloc (.cells #[.int .i32 x.lo, .int .i32 x.hi] t)) (some ⟨w.heap.size, 0, none⟩) 1 1 [x] :=
  SlR.fresh rfl (by unfold maxLen; omega) fun k y hy => by
    match k, hy with
    | 0, hy => cases hy; exact ⟨[.int .i32 x.lo, .int .i32 x.hi], rfl, ⟨rfl, h1, h2⟩, fun j u hu => by match j, hu with | 0, hu => simpa using hu | 1, hu => simpa using hu⟩

theorem mergeAll_snoc : ∀ (l : List Sp) (out : List Sp) (x : Sp), mergeAll out (l ++ [x]) = mergeStep (mergeAll out l) x
  | [], out, x => rfl
  | y :: l, out, x => by rw [List.cons_append]; unfold mergeAll; exact mergeAll_snoc l _ x
theorem mergeAll_len : ∀ (l : List Sp) (out : List Sp), (mergeAll out l).length ≤ out.length + l.length
  | [], out => by simp [mergeAll]
  | y :: l, out => by
    unfold mergeAll
    have h1 := mergeAll_len l (mergeStep out y)
    have h2 := mergeStep_len out y
    simp only [List.length_cons]; omega
theorem mergeAll_ok : ∀ (l : List Sp) (out : List Sp), (∀ x ∈ l, okSp x) → (∀ x ∈ out, okSp x) → ∀ x ∈ mergeAll out l, okSp x
  | [], out, _, h => h
  | y :: l, out, hl, h => by
    unfold mergeAll
    refine mergeAll_ok l _ (fun x hx => hl x (by simp [hx])) ?_
    have hy := hl y (by simp)
    rcases List.eq_nil_or_concat out with rfl | ⟨o, z, rfl⟩
    · intro x hx; simp [mergeStep] at hx; subst hx; exact hy
    · rw [List.concat_eq_append] at h ⊢
      rw [mergeStep_last]
      have hz := h z (by simp)
      unfold okSp at hy hz
      split
      · intro x hx
        rcases List.mem_append.1 hx with hx | hx
        · exact h x (by simp [hx])
        · simp at hx; subst hx; unfold okSp; simp only []; omega
      · intro x hx
        rcases List.mem_append.1 hx with hx | hx
        · exact h x hx
        · simp at hx; subst hx; exact hy
theorem i32_of {x : Int} (h : 0 ≤ x ∧ x ≤ 1114112) : i32 x := by unfold i32; omega

theorem OwnR.loose {α : Type} {R : World → List Value → α → Prop} {e : TypeId} {sz base : Nat} {w : World} {A : Option Addr} {n c : Nat} {l : List α} (h : OwnR R e sz base w (.slice A n c) l) {g off : Nat} (hA : A = some ⟨g, off, none⟩) :
    base ≤ g ∧ ∀ i, w.frozen? ⟨g, i, none⟩ = false := by
  subst hA
  obtain ⟨xs, ⟨_, ⟨hv, _⟩ | ⟨g', cap, cur, hv, hb, hh, _⟩⟩, _⟩ := h
  · cases hv
  · cases hv
    exact ⟨hb, fun i => frozen_of_row w _ i cur e hh⟩
theorem OwnR.head {α : Type} {R : World → List Value → α → Prop} {e : TypeId} {sz base : Nat} {w : World} {A : Option Addr} {n c : Nat} {o : List α} {z : α} (h : OwnR R e sz base w (.slice A n c) (o ++ [z])) : ∃ g, A = some ⟨g, 0, none⟩ ∧ n = o.length + 1 := by
  obtain ⟨xs, ⟨_, ⟨_, hn⟩ | ⟨g', cap, cur, hn, _⟩⟩, _⟩ := h
  · simp at hn
  · cases hn; exact ⟨g', rfl, by simp⟩

set_option maxRecDepth 100000 in
set_option maxHeartbeats 1600000 in
theorem merged_any (A : Option Addr) (n c : Nat) (l : List Sp) (w : World) (h : Spans w A n c l) (hn : n * 8 ≤ 140737488353280) (hok : ∀ x ∈ l, okSp x) :
    Calls Try.prog 121 #[.slice A n c] w fun e w' => ∃ v, e = .returned v ∧ OwnR rSpan 80 2 w.heap.size w' v (mergedL l) ∧ Ext w w' := by
  have hlen := Lib.hid h.len
  have hcap := h.cap
  have OK := Lib.hid hok; clear hok
  go_enter Try.func121, Try.ntmps121
  go_wp2
  go_loopw [3, 9] (fun v i wr => ∃ k : Nat, k ≤ n ∧ i = .int .i64 k ∧ OwnR rSpan 80 2 w.heap.size wr v (mergeAll [] (l.take k)) ∧ Ext w wr) (fun _ i _ => n - (intOf i).toNat)
  case atStart => exact ⟨0, by omega, rfl, OwnR.nil _ _ _ _ _, Ext.refl _⟩
  case round =>
    obtain ⟨k, hk, rfl, ow, hx⟩ := hrel
    by_cases hlt : k < n
    · obtain ⟨x, hxx⟩ := h.idx hlt
      obtain ⟨b, off, rfl, ⟨_, hne⟩, c1, c2, xb1, xb2⟩ := (h.ext hx).span hxx
      have hokx := OK.out x (List.mem_of_getElem? hxx)
      unfold okSp at hokx
      obtain ⟨hx1, hx2, hx3⟩ := hokx
      have HT := Lib.hid (take_snoc hxx); clear hxx
      have ex := (Ext.refl wr).alloc (.cells #[.int .i32 x.lo, .int .i32 x.hi] 80)
      have hx2a := hx.alloc (.cells #[.int .i32 x.lo, .int .i32 x.hi] 80)
      have ow1 := ow.ext (keep_span bot) ex
      have hokl := mergeAll_ok (l.take k) [] (fun y hy => OK.out y (List.mem_of_mem_take hy)) (fun y hy => by simp at hy)
      have hml := mergeAll_len (l.take k) []
      rw [List.length_take, hlen.out, List.length_nil] at hml
      have HM : Hid (mergeAll [] (l.take (k + 1)) = mergeStep (mergeAll [] (l.take k)) x) := Lib.hid (by rw [HT.out, mergeAll_snoc])
      generalize mergeAll [] (l.take k) = out at *
      have X0 := Lib.hid (cell_new wr #[.int .i32 x.lo, .int .i32 x.hi] 80 0 (.int .i32 x.lo) rfl)
      have X1 := Lib.hid (cell_new wr #[.int .i32 x.lo, .int .i32 x.hi] 80 1 (.int .i32 x.hi) rfl)
      rcases List.eq_nil_or_concat out with rfl | ⟨o, z, rfl⟩
      · have HM2 : Hid (mergeAll [] (l.take (k + 1)) = [x]) := Lib.hid (by rw [HM.out]; rfl)
        obtain ⟨AO, cO, rfl, hcO, hmO⟩ := ow.form
        simp only [List.length_nil] at hcO ow1
        clear HM HT
        go_upto_region 6 with fail
        go_quiet (fail)
        generalize hw5 : (wr.alloc (.cells #[.int .i32 x.lo, .int .i32 x.hi] 80)).drewN _ = w5
        have e5 : Ext (wr.alloc (.cells #[.int .i32 x.lo, .int .i32 x.hi] 80)) w5 := by rw [← hw5]; exact (Ext.refl _).drewN _
        clear hw5
        have y0 := e5.cell X0.out; have y1 := e5.cell X1.out
        have hx6 := (hx2a.trans e5).alloc (.cells #[.int .i32 x.lo, .int .i32 x.hi] 80)
        have ow6 := ow1.ext (keep_span bot) (e5.alloc (.cells #[.int .i32 x.lo, .int .i32 x.hi] 80))
        have s6 := span_new w5 x 80 xb1 xb2
        go_wp2_with (at_builtin
                     refine wpList_appS T_span (by omega) rfl (.tmp 41) (.tmp 43) rfl rfl ow6 rfl s6 (fun _ _ h => h) one_span (keep_span bot) (bot_no _) ?_ hx6.size ?_
                     · simp
                     intro v7 w7 o7 g7 hat7
                     have g8 := hx6.app g7 ow6)
        go_roundw
        case rel => exact ⟨k + 1, by omega, by go_num, by rw [HM2.out]; exact o7, g8⟩
        case measure => simp [intOf]; omega
      · rw [List.concat_eq_append] at *
        obtain ⟨AO, cO, rfl, hcO, hmO⟩ := ow.form
        obtain ⟨g, rfl, hl1⟩ := ow.head
        obtain ⟨A9, c9, e9, s9⟩ := ow1.sl
        obtain ⟨_, _, e8, ⟨hg, _⟩, z0, z1, _, zb⟩ := s9.span (k := o.length) (x := z) (by simp)
        have hfz := (ow1.loose rfl).2
        have hbase := (ow1.loose rfl).1
        cases e9
        cases e8
        have hzz := hokl z (by simp)
        unfold okSp at hzz
        obtain ⟨hz1, hz2, hz3⟩ := hzz
        simp only [Nat.zero_add] at z0 z1
        simp only [List.length_append, List.length_cons, List.length_nil, Nat.zero_add] at ow ow1 hcO hml
        have hzw : IntKind.i32.wrap (z.hi + 1) = z.hi + 1 := IntWalk.i32_in _ (by omega)
        have hmx : i32 (max z.hi x.hi) := by unfold i32; omega
        have HM2 : Hid (mergeAll [] (l.take (k + 1)) = if x.lo ≤ z.hi + 1 then o ++ [⟨z.lo, max z.hi x.hi⟩] else o ++ [z] ++ [x]) := Lib.hid (by rw [HM.out]; exact mergeStep_last o z x)
        have q1 : (o.length : Int) < (o.length : Int) + 1 := by omega
        clear HM HT hokl s9 ow
        by_cases t : x.lo ≤ z.hi + 1
        · have t' : decide (x.lo ≤ z.hi + 1) = true := by simpa using t
          rw [if_pos t] at HM2
          go_upto_region 6 with fail
          go_quiet (fail)
          generalize hw5 : (wr.alloc (.cells #[.int .i32 x.lo, .int .i32 x.hi] 80)).drewN _ = w5
          have e5 : Ext (wr.alloc (.cells #[.int .i32 x.lo, .int .i32 x.hi] 80)) w5 := by rw [← hw5]; exact (Ext.refl _).drewN _
          clear hw5
          have y0 := e5.cell X0.out; have y1 := e5.cell X1.out
          have u0 := e5.cell z0; have u1 := e5.cell z1
          have fz : ∀ i, w5.frozen? ⟨g, i, none⟩ = false := fun i => (e5.frozen hg).trans (hfz i)
          clear z0 z1 hfz
          have ow5 := ow1.ext (keep_span bot) e5
          go_wp2_with fail
          go_region
          go_wp2
          have emx : (if z.hi < x.hi then x.hi else z.hi) = max z.hi x.hi := by split <;> omega
          rw [emx, hl1]
          have owf := (ow5.setLast rfl hmx).ext (keep_span bot) (Ext.refl _).drew
          refine ⟨⟨k + 1, by omega, by go_num, by rw [HM2.out]; exact owf, (ext_set (hx2a.trans e5) hbase _ _).drew⟩, by simp [intOf]; omega⟩
        · have t' : decide (x.lo ≤ z.hi + 1) = false := by simpa using t
          rw [if_neg t] at HM2
          go_upto_region 6 with fail
          go_quiet (fail)
          generalize hw5 : (wr.alloc (.cells #[.int .i32 x.lo, .int .i32 x.hi] 80)).drewN _ = w5
          have e5 : Ext (wr.alloc (.cells #[.int .i32 x.lo, .int .i32 x.hi] 80)) w5 := by rw [← hw5]; exact (Ext.refl _).drewN _
          clear hw5
          have y0 := e5.cell X0.out; have y1 := e5.cell X1.out
          clear z0 z1 hfz
          have hx6 := (hx2a.trans e5).alloc (.cells #[.int .i32 x.lo, .int .i32 x.hi] 80)
          have ow6 := ow1.ext (keep_span bot) (e5.alloc (.cells #[.int .i32 x.lo, .int .i32 x.hi] 80))
          have s6 := span_new w5 x 80 xb1 xb2
          rw [← hl1] at ow6
          go_wp2_with (at_builtin
                       refine wpList_app T_span rfl (.tmp 41) (.tmp 43) rfl rfl ow6 rfl s6 (fun _ _ h => h) one_span (keep_span bot) (bot_no _) ?_ ?_ hx6.size ?_
                       · rw [hl1]; omega
                       · rw [hl1]; unfold maxLen; omega
                       intro v7 w7 o7 g7 hat7
                       have g8 := hx6.app g7 ow6)
          go_roundw
          case rel => exact ⟨k + 1, by omega, by go_num, by rw [HM2.out]; exact o7, g8⟩
          case measure => simp [intOf]; omega
    · go_wp2
      go_ret
      rw [take_all hlen.out (by omega), mergeAll_nil] at ow
      exact ⟨_, rfl, ow, hx⟩

end Go.Proofs.Ytfdkbhbnldcbmaa
