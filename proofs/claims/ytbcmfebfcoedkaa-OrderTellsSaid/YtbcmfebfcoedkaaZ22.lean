/- Walks: Bare, of the program and of the document. -/
import Derived.Test.YtbcmfebfcoedkaaZ21
import Derived.Shelf.SlicesE.DeleteFunc
namespace Go.Proofs.Ytbcmfebfcoedkaa
open Go.RowKit Go.Sort Go.Shelf
set_option linter.unusedVariables false
set_option linter.unusedSimpArgs false

def delR_ren : Go.Shelf.Ren := ⟨fun | 6 => 47 | 10 => 32 | n => n, fun | 22 => 22 | 23 => 21 | 25 => 66 | n => n, fun | n => n⟩
theorem delR : Go.Proofs.SlLaysH.n10 Try.prog delR_ren := {
  mixed := by kernel_rfl
  f6 := ⟨Try.f47.name, by decide, Try.func47.trans (congrArg some (by kernel_rfl))⟩
  f10 := ⟨Try.f32.name, by decide, Try.func32.trans (congrArg some (by kernel_rfl))⟩
  t0 := Try.underlying0
  a0 := Try.isAgg0
  z0 := Try.sizeOf0
  v0 := Try.zeroValue0
  t3 := Try.underlying3
  a3 := Try.isAgg3
  z3 := Try.sizeOf3
  v3 := Try.zeroValue3
  t4 := Try.underlying4
  a4 := Try.isAgg4
  z4 := Try.sizeOf4
  v4 := Try.zeroValue4
  t22 := Try.underlying22
  a22 := Try.isAgg22
  z22 := Try.sizeOf22
  v22 := Try.zeroValue22
  a23 := Try.isAgg21
  z23 := Try.sizeOf21
  t25 := Try.underlying66
  a25 := Try.isAgg66
  z25 := Try.sizeOf66
  v25 := Try.zeroValue66 }

def isMark (r : Int) : Bool := decide (0 < clsOf r)
def bareV (l : List Int) : List Int := (apartV l).filter fun r => !isMark r

theorem bareAt_any (r : Int) (w : World) : Calls Try.prog 33 #[.int .i32 r] w fun e w' => e = .returned (.bool (isMark r)) ∧ w = w' := by
  have C := Lib.hid (Class_any r w)
  have HE := Lib.hid (show isMark r = decide (0 < clsOf r) from rfl)
  generalize clsOf r = c at *
  go_enter Try.func33, Try.ntmps33
  go_wp2_with (go_at_call 7; ((with_reducible refine C.out.mono ?_); rintro e w' ⟨rfl, rfl⟩))
  go_ret
  rw [HE.out]
  exact ⟨by simp, rfl⟩

theorem delNil_any (w : World) : Calls Try.prog 32 #[.slice none 0 0, .func (.func 33) #[] #[]] w fun e w' => e = .returned (.slice none 0 0) ∧ Ext w w' := by
  have eg := enters Try.func33 (by kernel_rfl) rfl
  have C := Lib.hid (IndexRune_any none 0 0 [] w 33 #[] isMark eg (fun W x _ => (bareAt_any x W).mono fun e w' ⟨h1, h2⟩ => ⟨h1, by rw [h2]; exact Ext.refl _⟩) (SlR.nil _ _ _ _ _ _ (by unfold maxLen; omega)))
  have e0 : idxFrom isMark 0 [] = -1 := rfl
  rw [e0] at C
  go_enter Try.func32, Try.ntmps32
  go_wp2_with (go_at_call 47; ((with_reducible refine C.out.mono ?_); rintro e w1 ⟨rfl, x1⟩))
  go_ret
  exact ⟨rfl, x1⟩

theorem own_cut {e : TypeId} {base : Nat} {w : World} {g cap : Nat} {a b : List Int} (h : OwnR rRune e 1 base w (.slice (some ⟨g, 0, none⟩) (a ++ b).length cap) (a ++ b)) : OwnR rRune e 1 base w (.slice (some ⟨g, 0, none⟩) a.length cap) a := by
  obtain ⟨xs, ⟨hxl, h | ⟨g', cap', cur, e1, hb, hh, h1, h2, h3, h4⟩⟩, he⟩ := h
  · obtain ⟨h, _⟩ := h; cases h
  · injection e1 with e1 e2 e3
    injection e1 with e1
    injection e1 with e1
    subst e1 e3
    refine ⟨xs.take a.length, ⟨by simp [hxl], .inr ⟨g, cap, cur, rfl, hb, hh, by simp at h1; omega, h2, h3, ?_⟩⟩, ?_⟩
    · rw [← h4, List.take_take]; congr 1; simp
    · refine Enc.of_get _ _ (by simp [hxl]) fun k x hx => ?_
      have hk := lt_of_get hx
      obtain ⟨vs, q1, q2, q3⟩ := he.get k x (by rw [List.getElem?_append_left hk]; exact hx)
      refine ⟨vs, q1, q2, fun j u hu => ?_⟩
      have hj := lt_of_get hu
      rw [List.getElem?_take, if_pos (by omega)]
      exact q3 j u hu

set_option maxHeartbeats 1600000 in
theorem del_any (g cap : Nat) (l : List Int) (w : World) (hH : Holds (Value.int .i32) w g 0 l.toArray) (hg : g < w.heap.size) (hc : l.length ≤ cap) (hl : l.length ≤ 60000) :
    Calls Try.prog 32 #[.slice (some ⟨g, 0, none⟩) l.length cap, .func (.func 33) #[] #[]] w
      fun e w' => e = .returned (.slice (some ⟨g, 0, none⟩) (l.filter fun r => !isMark r).length cap) ∧ Ext (putRow (Value.int .i32) w g 0 ((l.filter fun r => !isMark r) ++ List.replicate (l.length - (l.filter fun r => !isMark r).length) 0).toArray) w' := by
  have eg := enters Try.func33 (by kernel_rfl) rfl
  have gives : ∀ W x, FnGives Try.prog 33 #[] #[.int .i32 x] (.bool (isMark x)) W := fun W x => (bareAt_any x W).mono fun e w' ⟨h1, h2⟩ => ⟨h1, 0, by rw [← h2]; rfl⟩
  have := AnyE.slices_DeleteFunc delR (Value.int .i32) (fun _ => rfl) isMark 33 #[] eg (0 : Int) Try.zeroValue21 g 0 cap l.toArray w (fun W x _ => gives W x) (fun n os dk x _ => gives _ x) hH (by simp; omega) (by simpa using hc)
  simp only [List.size_toArray] at this
  refine this.mono fun e w' ⟨h1, q, h2⟩ => ⟨h1, ?_⟩
  rw [h2]
  exact ext_mapBoth ((Ext.refl w).drewN q) hg _

theorem filter_i32 {l : List Int} {f : Int → Bool} (h : ∀ r ∈ l, i32 r) : ∀ r ∈ l.filter f, i32 r := fun r hr => h r (List.mem_filter.1 hr).1
theorem apart_i32 {l : List Int} (h : ∀ r ∈ l, i32 r) : ∀ r ∈ apartV l, i32 r := by
  unfold apartV
  split
  · exact fun r hr => flat_i32 h r (nsort_mem hr)
  · simp
theorem apart_len (l : List Int) : (apartV l).length ≤ 4000 := by
  unfold apartV
  by_cases h : apartE l = 0
  · rw [if_pos h, nsort_len]
    unfold apartE at h
    by_cases h1 : wrongText l ≠ 0
    · rw [if_pos h1] at h; exact absurd h h1
    · rw [if_neg h1] at h
      by_cases h2 : 4000 < (flatL l).length
      · rw [if_pos h2] at h; cases h
      · omega
  · rw [if_neg h]; simp
theorem apart_nil {l : List Int} (h : apartE l ≠ 0) : apartV l = [] := by unfold apartV; rw [if_neg h]

set_option maxRecDepth 1000000 in
set_option maxHeartbeats 3200000 in
theorem Bare_any (A : Option Addr) (n c : Nat) (l : List Int) (w : World) (h : Runes w A n c l) :
    Calls Try.prog 14 #[.slice A n c] w fun e w' => TextR w (apartE l) (bareV l) e w' := by
  have C1 := Lib.hid (Apart_any A n c l w h)
  have HI := Lib.hid (apart_i32 h.i32)
  have HLN := Lib.hid (apart_len l)
  clear h
  by_cases he : apartE l = 0
  · have HE := Lib.hid he
    rw [he] at C1
    have HB := Lib.hid (show bareV l = (apartV l).filter fun r => !isMark r from rfl)
    clear he
    generalize apartV l = V at *
    have hmf : ∀ (fn : Fn) (first cap : Array Value) (w : World), (Instr.makeFunc fn first cap).run Try.prog w = .ok (.func fn first cap) w := fun _ _ _ _ => rfl
    go_enter Try.func14, Try.ntmps14
    go_wp2_with (go_at_call 9; ((with_reducible refine C1.out.mono ?_); rintro e w1 ⟨⟨v, rfl, o1⟩, x1⟩))
    rcases own_holds o1 with ⟨hnil, rfl⟩ | ⟨g, cap, hve, hg1, hg2, hh, hc1, hc2⟩
    · have CD := Lib.hid (delNil_any w1)
      have HN := Lib.hid hnil
      have X1 := Lib.hid x1
      clear o1 x1 hnil
      go_wp2_with (go_at_call 32; ((with_reducible refine CD.out.mono ?_); rintro e w2 ⟨rfl, x2⟩))
      go_ret2
      rw [HE.out, HB.out, HN.out]
      exact ⟨⟨_, rfl, OwnR.nil _ _ _ _ _⟩, X1.out.trans x2⟩
    · have CD := Lib.hid (del_any g cap V w1 hh hg2 hc1 (by have := HLN.out; omega))
      have FIN := Lib.hid (fun w2 (S : Ext (putRow (Value.int .i32) w1 g 0 ((V.filter fun r => !isMark r) ++ List.replicate (V.length - (V.filter fun r => !isMark r).length) 0).toArray) w2) =>
        show OwnR rRune 21 1 w.heap.size w2 (.slice (some ⟨g, 0, none⟩) (V.filter fun r => !isMark r).length cap) (V.filter fun r => !isMark r) ∧ Ext w w2 from by
          have hfl : (V.filter fun r => !isMark r).length ≤ V.length := List.length_filter_le _ _
          have hlen : ((V.filter fun r => !isMark r) ++ List.replicate (V.length - (V.filter fun r => !isMark r).length) (0 : Int)).length = V.length := by simp; omega
          have := holds_own o1 hve hlen (fun r hr => by
            rcases List.mem_append.1 hr with hr | hr
            · exact filter_i32 HI.out r hr
            · have := (List.mem_replicate.1 hr).2; subst this; exact ⟨by decide, by decide⟩) S
          rw [hve] at this
          exact ⟨own_cut (a := V.filter fun r => !isMark r) (b := List.replicate (V.length - (V.filter fun r => !isMark r).length) (0 : Int)) (by rw [hlen]; exact this), (ext_put x1 hg1 _).trans S⟩)
      subst hve
      clear o1 hh x1
      rw [← HB.out] at CD FIN
      generalize V.length = N at *
      go_wp2_with (go_at_call 32; ((with_reducible refine CD.out.mono ?_); rintro e w2 ⟨rfl, x2⟩))
      go_ret2
      rw [HE.out]
      exact ⟨⟨_, rfl, (FIN.out _ x2).1⟩, (FIN.out _ x2).2⟩
  · have HB := Lib.hid (show bareV l = [] by unfold bareV; rw [apart_nil he]; rfl)
    have HA := Lib.hid (apart_nil he)
    rw [HB.out]
    have hn : (apartE l != 0) = true := by simpa using he
    clear he HI HLN HB
    generalize apartE l = er at *
    go_enter Try.func14, Try.ntmps14
    go_wp2_with (go_at_call 9; ((with_reducible refine C1.out.mono ?_); rintro e w1 ⟨⟨v, rfl, o1⟩, x1⟩))
    go_ret2
    exact ⟨⟨_, rfl, OwnR.nil _ _ _ _ _⟩, x1⟩

theorem isMark_eq (r : Int) : (!isMark r) = (clsOf r == 0) := by
  unfold isMark
  have := (clsOf_nn r).1
  by_cases h : clsOf r = 0
  · rw [h]; rfl
  · have h1 : 0 < clsOf r := by omega
    rw [decide_eq_true h1, beq_eq_false_iff_ne.2 h]; rfl

set_option maxRecDepth 1000000 in
set_option maxHeartbeats 3200000 in
theorem refBare_any (A : Option Addr) (n c : Nat) (l : List Int) (w : World) (h : Runes w A n c l) :
    Calls Try.prog 15 #[.slice A n c] w fun e w' => TextR w (apartE l) (bareV l) e w' := by
  have C1 := Lib.hid (refApart_any A n c l w h)
  have HLN := Lib.hid (apart_len l)
  clear h
  by_cases he : apartE l = 0
  · have HE := Lib.hid he
    rw [he] at C1
    have HB := Lib.hid (show bareV l = (apartV l).filter fun r => !isMark r from rfl)
    have CL := Lib.hid (fun r W => refClass_any r W)
    clear he
    generalize apartV l = V at *
    go_enter Try.func15, Try.ntmps15
    go_wp2_with (go_at_call 10; ((with_reducible refine C1.out.mono ?_); rintro e w1 ⟨⟨v, rfl, o1⟩, x1⟩; obtain ⟨AV, cV, rfl, s1⟩ := o1.top; have S1 := Lib.hid s1; have X1 := Lib.hid x1; clear o1 x1 s1))
    have hcap := S1.out.cap
    have hm := S1.out.max; unfold maxLen at hm
    obtain ⟨N, hN⟩ : ∃ N, V.length = N := ⟨_, rfl⟩
    rw [hN] at S1 hcap ⊢
    have HN := Lib.hid hN
    clear hN C1
    go_loopw [6, 19] (fun vo vi wr => ∃ (k : Nat) (v : Value), v = vo ∧ vi = .int .i64 k ∧ k ≤ N ∧ Hid (OwnR rRune 21 1 w1.heap.size wr v ((V.take k).filter fun r => !isMark r)) ∧ Hid (Ext w1 wr)) (fun _ vi _ => N - (intOf vi).toNat)
    case atStart => exact ⟨0, _, rfl, rfl, by omega, Lib.hid (OwnR.nil _ _ _ _ _), Lib.hid (Ext.refl _)⟩
    case round =>
      obtain ⟨k, v, rfl, rfl, hk, HO, HX⟩ := hrel
      by_cases hlt : k < N
      · have gz : (k : Int) < (N : Int) := by omega
        have hR := Runes.ext S1.out HX.out
        obtain ⟨x, hxx⟩ := hR.idx hlt
        obtain ⟨b, off, rfl, hbb, hc, hi1, hi2⟩ := hR.rune hxx
        have HS := Lib.hid (take_snoc hxx)
        have HI := Lib.hid (show i32 x from ⟨hi1, hi2⟩)
        have CX := Lib.hid (fun W => CL.out x W)
        have HQ := Lib.hid (isMark_eq x)
        clear hR hxx
        obtain ⟨cx, hcx⟩ : ∃ q, clsOf x = q := ⟨_, rfl⟩
        rw [hcx] at CX HQ
        clear hcx
        by_cases h0 : cx = 0
        · have hq : (cx == 0) = true := by simp [h0]
          have HT := Lib.hid (show ((V.take (k + 1)).filter fun r => !isMark r) = ((V.take k).filter fun r => !isMark r) ++ [x] by rw [HS.out, List.filter_append, List.filter_cons, HQ.out, hq]; simp)
          have e5 := (Ext.refl wr).alloc (.cells #[.int .i32 x] 21)
          have O5 := Lib.hid (HO.out.ext (keep_rune top) e5)
          have X5 := Lib.hid (HX.out.trans e5)
          have S5 := Lib.hid (one_newR wr x 21 HI.out)
          have HFL := Lib.hid (show ((V.take k).filter fun r => !isMark r).length ≤ 4000 from by
            have h1 := List.length_filter_le (fun r => !isMark r) (V.take k)
            have h2 : (V.take k).length ≤ V.length := (by rw [List.length_take]; omega)
            have := HLN.out; omega)
          clear e5 HO h0
          go_wp2_with (first
            | (go_at_call 8; ((with_reducible refine (CX.out _).mono ?_); rintro e w' ⟨rfl, rfl⟩))
            | (refine wpList_appS T_rune (by omega) rfl (.tmp 26) (.tmp 28) rfl rfl O5.out rfl S5.out (fun _ _ h => h) one_rune (keep_rune bot) (bot_no _) (by have := HFL.out; omega) X5.out.size ?_; intro v6 w6 o6 g6 hat6; have X6 := Lib.hid (X5.out.app g6 O5.out); rw [← HT.out] at o6; have O6 := Lib.hid o6; clear o6 g6 hat6))
          go_roundw
          case rel => exact ⟨k + 1, v6, rfl, by go_num, by omega, O6, X6⟩
          case measure => simp [intOf]; omega
        · have hq : (cx == 0) = false := by simp [h0]
          have HT := Lib.hid (show ((V.take (k + 1)).filter fun r => !isMark r) = ((V.take k).filter fun r => !isMark r) by rw [HS.out, List.filter_append, List.filter_cons, HQ.out, hq]; simp)
          go_wp2_with (go_at_call 8; ((with_reducible refine (CX.out _).mono ?_); rintro e w' ⟨rfl, rfl⟩))
          go_roundw
          case rel => exact ⟨k + 1, v, rfl, by go_num, by omega, by rw [HT.out]; exact HO, HX⟩
          case measure => simp [intOf]; omega
      · have gz : ¬ (k : Int) < (N : Int) := by omega
        have hO := HO.out
        rw [List.take_of_length_le (by rw [HN.out]; omega), ← HB.out] at hO
        have O9 := Lib.hid (hO.mono (base' := w.heap.size) X1.out.size)
        clear hO HO
        go_wp2
        go_ret2
        rw [HE.out]
        exact ⟨⟨_, rfl, O9.out⟩, X1.out.trans HX.out⟩
  · have HB := Lib.hid (show bareV l = [] by unfold bareV; rw [apart_nil he]; rfl)
    rw [HB.out]
    have hn : (apartE l != 0) = true := by simpa using he
    clear he HLN HB
    generalize apartE l = er at *
    go_enter Try.func15, Try.ntmps15
    go_wp2_with (go_at_call 10; ((with_reducible refine C1.out.mono ?_); rintro e w1 ⟨⟨v, rfl, o1⟩, x1⟩))
    go_ret2
    exact ⟨⟨_, rfl, OwnR.nil _ _ _ _ _⟩, x1⟩

end Go.Proofs.Ytbcmfebfcoedkaa
