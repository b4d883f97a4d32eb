/- Walks: what is wrong with texts and rules. Walk: what is wrong with a rule. -/
import Derived.Test.YtfdkbhbnldcbmaaW2
import Derived.Test.YtfdkbhbnldcbmaaW2b
namespace Go.Proofs.Ytfdkbhbnldcbmaa
open Go.RowKit
set_option linter.unusedVariables false

theorem any_not {α : Type} (p : α → Bool) (l : List α) : (l.any fun x => !p x) = !l.all p := by
  induction l with
  | nil => rfl
  | cons x r ih => simp only [List.any_cons, List.all_cons, ih]; cases p x <;> rfl

set_option maxHeartbeats 400000 in
theorem Text_any (A : Option Addr) (n c : Nat) (l : List Int) (w : World) (h : Runes w A n c l) :
    Calls Try.prog 24 #[.slice A n c] w fun e w' => e = .returned (.int .i64 (wrongText l)) ∧ Ext w w' := by
  have eg := enters Try.func87 (by kernel_rfl) rfl
  have hm := h.max; unfold maxLen at hm
  have hcap := h.cap
  by_cases hbig : 4000 < n
  · have e : wrongText l = 4 := by unfold wrongText; rw [if_pos (by rw [h.len]; exact hbig)]
    have H := Lib.hid e; clear e
    go_enter Try.func24, Try.ntmps24
    go_wp2
    go_ret
    rw [H.out]; exact ⟨rfl, Ext.refl _⟩
  have HC := Lib.hid (ContainsRune_any A n c l w 87 #[] (fun x => !right x) eg (fun W x _ => (notRight2_any x W).mono fun e w' ⟨h1, h2⟩ => ⟨h1, by rw [h2]; exact Ext.refl _⟩) h)
  have hlen := Lib.hid h.len
  clear h
  cases ha : l.all right
  · have e : wrongText l = 3 := by unfold wrongText; rw [if_neg (by rw [hlen.out]; exact hbig)]; simp [ha]
    have H := Lib.hid e; clear e
    have e2 : (l.any fun x => !right x) = true := by rw [any_not, ha]; rfl
    have H2 := Lib.hid e2; clear e2 ha
    go_enter Try.func24, Try.ntmps24
    go_wp2_with (go_at_call 84; refine HC.out.mono ?_; rintro e w' ⟨rfl, hx⟩; rw [H2.out])
    go_ret
    rw [H.out]; exact ⟨rfl, hx⟩
  · have e : wrongText l = 0 := by unfold wrongText; rw [if_neg (by rw [hlen.out]; exact hbig)]; simp [ha]
    have H := Lib.hid e; clear e
    have e2 : (l.any fun x => !right x) = false := by rw [any_not, ha]; rfl
    have H2 := Lib.hid e2; clear e2 ha
    go_enter Try.func24, Try.ntmps24
    go_wp2_with (go_at_call 84; refine HC.out.mono ?_; rintro e w' ⟨rfl, hx⟩; rw [H2.out])
    go_ret
    rw [H.out]; exact ⟨rfl, hx⟩

set_option maxHeartbeats 400000 in
theorem refText_any (A : Option Addr) (n c : Nat) (l : List Int) (w : World) (h : Runes w A n c l) :
    Calls Try.prog 25 #[.slice A n c] w fun e w' => e = .returned (.int .i64 (wrongText l)) ∧ w = w' := by
  have hm := h.max; unfold maxLen at hm
  have hcap := h.cap
  by_cases hbig : 4000 < n
  · have e : wrongText l = 4 := by unfold wrongText; rw [if_pos (by rw [h.len]; exact hbig)]
    have H := Lib.hid e; clear e
    go_enter Try.func25, Try.ntmps25
    go_wp2
    go_ret
    rw [H.out]; exact ⟨rfl, rfl⟩
  have HC := Lib.hid (All_any A n c l w h)
  have hlen := Lib.hid h.len
  clear h
  cases ha : l.all right
  · have e : wrongText l = 3 := by unfold wrongText; rw [if_neg (by rw [hlen.out]; exact hbig)]; simp [ha]
    have H := Lib.hid e; clear e
    have H2 := Lib.hid ha; clear ha
    go_enter Try.func25, Try.ntmps25
    go_wp2_with (go_at_call 83; refine HC.out.mono ?_; rintro e w' ⟨rfl, rfl⟩; rw [H2.out])
    go_ret
    rw [H.out]; exact ⟨rfl, rfl⟩
  · have e : wrongText l = 0 := by unfold wrongText; rw [if_neg (by rw [hlen.out]; exact hbig)]; simp [ha]
    have H := Lib.hid e; clear e
    have H2 := Lib.hid ha; clear ha
    go_enter Try.func25, Try.ntmps25
    go_wp2_with (go_at_call 83; refine HC.out.mono ?_; rintro e w' ⟨rfl, rfl⟩; rw [H2.out])
    go_ret
    rw [H.out]; exact ⟨rfl, rfl⟩

abbrev Sides (w : World) (A : Option Addr) (n c : Nat) (l : List (List (List Sp))) : Prop := SlR (rSl (rSl rSpan 2 top) 1 top) 1 top w A n c l

section
variable (s f : Bool) (A1 : Option Addr) (n1 c1 : Nat) (A2 : Option Addr) (n2 c2 : Nat) (A3 : Option Addr) (n3 c3 : Nat) (A4 : Option Addr) (n4 c4 : Nat) (q : Int) (r : Rule) (w : World)

theorem sides_new {w' : World} (h : RuleV w s f A1 n1 c1 A2 n2 c2 A3 n3 c3 A4 n4 c4 q r) (hx : Ext w w') (t : TypeId) :
    Sides (w'.alloc (.cells #[.slice A1 n1 c1, .slice A2 n2 c2, .slice A3 n3 c3] t)) (some ⟨w'.heap.size, 0, none⟩) 3 3 [r.before, r.source, r.after] := by
  have hy := hx.alloc (.cells #[.slice A1 n1 c1, .slice A2 n2 c2, .slice A3 n3 c3] t)
  refine SlR.fresh rfl (by simp [maxLen]) fun k x hxx => ?_
  match k, hxx with
  | 0, hxx => cases hxx; exact ⟨[.slice A1 n1 c1], rfl, ⟨A1, n1, c1, rfl, h.before.ext hy⟩, fun j u hu => by match j, hu with | 0, hu => simpa using hu⟩
  | 1, hxx => cases hxx; exact ⟨[.slice A2 n2 c2], rfl, ⟨A2, n2, c2, rfl, h.source.ext hy⟩, fun j u hu => by match j, hu with | 0, hu => simpa using hu⟩
  | 2, hxx => cases hxx; exact ⟨[.slice A3 n3 c3], rfl, ⟨A3, n3, c3, rfl, h.after.ext hy⟩, fun j u hu => by match j, hu with | 0, hu => simpa using hu⟩

set_option maxRecDepth 100000 in
set_option maxHeartbeats 2000000 in
theorem refWrong_any (h : RuleV w s f A1 n1 c1 A2 n2 c2 A3 n3 c3 A4 n4 c4 q r) :
    Calls Try.prog 22 #[.agg #[.bool s, .bool f, .slice A1 n1 c1, .slice A2 n2 c2, .slice A3 n3 c3, .slice A4 n4 c4, .int .i64 q]] w
      fun e w' => e = .returned (.int .i64 (wrongRule r)) ∧ Ext w w' := by
  have hS := sides_new s f A1 n1 c1 A2 n2 c2 A3 n3 c3 A4 n4 c4 q r w h ((Ext.refl w).alloc (.cells #[.bool s, .bool f, .slice A1 n1 c1, .slice A2 n2 c2, .slice A3 n3 c3, .slice A4 n4 c4, .int .i64 q] 25)) 22
  have hx2 : Ext w ((w.alloc (.cells #[.bool s, .bool f, .slice A1 n1 c1, .slice A2 n2 c2, .slice A3 n3 c3, .slice A4 n4 c4, .int .i64 q] 25)).alloc (.cells #[.slice A1 n1 c1, .slice A2 n2 c2, .slice A3 n3 c3] 22)) := ((Ext.refl _).alloc _).alloc _
  have b3 : ((w.alloc (.cells #[.bool s, .bool f, .slice A1 n1 c1, .slice A2 n2 c2, .slice A3 n3 c3, .slice A4 n4 c4, .int .i64 q] 25)).alloc (.cells #[.slice A1 n1 c1, .slice A2 n2 c2, .slice A3 n3 c3] 22)).cell? ⟨w.heap.size, 3, none⟩ = some (.slice A2 n2 c2) := by simp
  have b5 : ((w.alloc (.cells #[.bool s, .bool f, .slice A1 n1 c1, .slice A2 n2 c2, .slice A3 n3 c3, .slice A4 n4 c4, .int .i64 q] 25)).alloc (.cells #[.slice A1 n1 c1, .slice A2 n2 c2, .slice A3 n3 c3] 22)).cell? ⟨w.heap.size, 5, none⟩ = some (.slice A4 n4 c4) := by simp
  have b6 : ((w.alloc (.cells #[.bool s, .bool f, .slice A1 n1 c1, .slice A2 n2 c2, .slice A3 n3 c3, .slice A4 n4 c4, .int .i64 q] 25)).alloc (.cells #[.slice A1 n1 c1, .slice A2 n2 c2, .slice A3 n3 c3] 22)).cell? ⟨w.heap.size, 6, none⟩ = some (.int .i64 q) := by simp
  simp only [World.size_alloc] at hS
  have HR := Lib.hid h; clear h
  go_enter Try.func22, Try.ntmps22
  go_wp2
  generalize (w.alloc (.cells #[.bool s, .bool f, .slice A1 n1 c1, .slice A2 n2 c2, .slice A3 n3 c3, .slice A4 n4 c4, .int .i64 q] 25)).alloc (.cells #[.slice A1 n1 c1, .slice A2 n2 c2, .slice A3 n3 c3] 22) = w2 at *
  go_loopw [15] (fun i wr => ∃ k : Nat, k ≤ 3 ∧ i = .int .i64 k ∧ wrongSides [r.before, r.source, r.after] = wrongSides ([r.before, r.source, r.after].drop k) ∧ Ext w2 wr) (fun i _ => 3 - (intOf i).toNat)
  case atStart => exact ⟨0, by omega, rfl, rfl, Ext.refl _⟩
  case round =>
    obtain ⟨k, hk, rfl, hkk, hx⟩ := hrel
    have HK := Lib.hid hkk; clear hkk
    by_cases hlt : k < 3
    · obtain ⟨S, hSS⟩ := hS.idx hlt
      obtain ⟨bb, oo, A', n', c', hA, ⟨_, hne⟩, hc, hsl⟩ := (hS.ext (keep_sl keep_set) hx).sl hSS
      simp only [Option.some.injEq, Addr.mk.injEq, and_true] at hA
      obtain ⟨rfl, rfl⟩ := hA
      simp only [Nat.zero_add] at hc
      have HD := Lib.hid (drop_cons hSS); clear hSS
      have hm := hsl.max; unfold maxLen at hm
      have hcap := hsl.cap
      by_cases hbig : 20 < n'
      · have e : wrongRule r = 5 := by
          have h5 := wrongSide_big hsl.len hbig
          have : wrongSides [r.before, r.source, r.after] = 5 := by rw [HK.out, HD.out, wrongSides_bad (by rw [h5]; omega), h5]
          rw [wrongRule_sides (by rw [this]; omega), this]
        have H := Lib.hid e; clear e
        go_wp2
        go_ret
        rw [H.out]
        exact ⟨rfl, hx2.trans hx⟩
      · have H5 := Lib.hid (wrongSide_small hsl.len hbig)
        have hlen := Lib.hid hsl.len
        have hk3 : decide ((k : Int) < 3) = true := by simp; omega
        obtain ⟨wo, rfl⟩ : ∃ wo : World, wo = wr := ⟨_, rfl⟩
        go_wp2
        go_loopw [24] (fun i wq => ∃ j : Nat, j ≤ n' ∧ i = .int .i64 j ∧ wrongSets S = wrongSets (S.drop j) ∧ Ext wo wq) (fun i _ => n' - (intOf i).toNat)
        case atStart => exact ⟨0, by omega, rfl, rfl, Ext.refl _⟩
        case round =>
          obtain ⟨j, hj, rfl, hjj, hy⟩ := hrel
          have HJ := Lib.hid hjj; clear hjj
          by_cases hlj : j < n'
          · obtain ⟨T, hTT⟩ := hsl.idx hlj
            obtain ⟨b2, o2, A2', n2', c2', rfl, ⟨_, hne2⟩, hc2, hst⟩ := (hsl.ext keep_set hy).sl hTT
            have HD2 := Lib.hid (drop_cons hTT); clear hTT
            have hbd := wrongSet_bd T
            have HC := Lib.hid (refSetWrong_any A2' n2' c2' T wr hst)
            by_cases hz : wrongSet T = 0
            · have HZ := Lib.hid hz; clear hz hbd
              go_wp2_with (go_at_call 56; refine HC.out.mono ?_; rintro e w1 ⟨rfl, hx1⟩; rw [HZ.out])
              go_roundw
              case rel => exact ⟨j + 1, by omega, by go_num, by rw [HJ.out, HD2.out, wrongSets_ok HZ.out], hy.trans hx1⟩
              case measure => simp [intOf]; omega
            · have e : wrongRule r = wrongSet T := by
                have h1 : wrongSets S = wrongSet T := by rw [HJ.out, HD2.out, wrongSets_bad hz]
                have h2 : wrongSide S = wrongSet T := by rw [H5.out, h1]
                have h3 : wrongSides [r.before, r.source, r.after] = wrongSet T := by rw [HK.out, HD.out, wrongSides_bad (by rw [h2]; exact hz), h2]
                rw [wrongRule_sides (by rw [h3]; exact hz), h3]
              have H := Lib.hid e; clear e
              have hz' : (wrongSet T != 0) = true := by simpa using hz
              go_wp2_with (go_at_call 56; refine HC.out.mono ?_; rintro e w1 ⟨rfl, hx1⟩)
              go_ret
              rw [H.out]
              exact ⟨rfl, hx2.trans (hx.trans (hy.trans hx1))⟩
          · have hs0 : wrongSets S = 0 := by rw [HJ.out, drop_end hlen.out hlj]; rfl
            have HS0 := Lib.hid hs0; clear hs0
            go_wp2
            go_roundw
            case rel => exact ⟨k + 1, by omega, by go_num, by rw [HK.out, HD.out, wrongSides_ok (by rw [H5.out, HS0.out])], hx.trans hy⟩
            case measure => simp [intOf]; omega
    · have b3' := hx.cell b3
      have b5' := hx.cell b5
      have b6' := hx.cell b6
      have hs0 : wrongSides [r.before, r.source, r.after] = 0 := by rw [HK.out, drop_end (n := 3) rfl hlt]; rfl
      have h := HR.out
      have hrest := Lib.hid (wrongRule_rest hs0)
      have hmT := h.target.max; unfold maxLen at hmT
      have hmS := h.source.max; unfold maxLen at hmS
      have hcT := h.target.cap
      have hcS := h.source.cap
      have hsl := Lib.hid h.source.len
      have htl := Lib.hid h.target.len
      have hq := Lib.hid h.cursor
      have HC := Lib.hid (All_any A4 n4 c4 r.target wr ((h.target.ext hx2).ext hx))
      have hxx := hx2.trans hx
      clear hs0 HK hS hx h
      by_cases t1 : n2 < 1
      · have e : wrongRule r = 6 := by rw [hrest.out]; unfold wrongRest; rw [if_pos (by rw [hsl.out]; omega)]
        have H := Lib.hid e; clear e
        go_wp2
        go_ret
        rw [H.out]; exact ⟨rfl, hxx⟩
      by_cases t2 : 20 < n4
      · have e : wrongRule r = 5 := by rw [hrest.out]; unfold wrongRest; rw [if_neg (by rw [hsl.out]; omega), if_pos (by rw [htl.out]; omega)]
        have H := Lib.hid e; clear e
        go_wp2
        go_ret
        rw [H.out]; exact ⟨rfl, hxx⟩
      cases t3 : r.target.all right
      · have e : wrongRule r = 3 := by rw [hrest.out]; unfold wrongRest; rw [if_neg (by rw [hsl.out]; omega), if_neg (by rw [htl.out]; omega), if_pos (by rw [t3]; rfl)]
        have H := Lib.hid e; clear e
        have H3 := Lib.hid t3; clear t3
        go_wp2_with (go_at_call 83; refine HC.out.mono ?_; rintro e w1 ⟨rfl, rfl⟩; rw [H3.out])
        go_ret
        rw [H.out]; exact ⟨rfl, hxx⟩
      · have e : wrongRule r = if q < 0 ∨ (n4 : Int) < q then 3 else 0 := by rw [hrest.out]; unfold wrongRest; rw [if_neg (by rw [hsl.out]; omega), if_neg (by rw [htl.out]; omega), if_neg (by rw [t3]; simp), htl.out, hq.out]
        have H := Lib.hid e; clear e
        have H3 := Lib.hid t3; clear t3
        by_cases t4 : q < 0
        · go_wp2_with (go_at_call 83; refine HC.out.mono ?_; rintro e w1 ⟨rfl, rfl⟩; rw [H3.out])
          go_ret
          rw [H.out, if_pos (Or.inl t4)]; exact ⟨rfl, hxx⟩
        · by_cases t5 : (n4 : Int) < q
          · go_wp2_with (go_at_call 83; refine HC.out.mono ?_; rintro e w1 ⟨rfl, rfl⟩; rw [H3.out])
            go_ret
            rw [H.out, if_pos (Or.inr t5)]; exact ⟨rfl, hxx⟩
          · go_wp2_with (go_at_call 83; refine HC.out.mono ?_; rintro e w1 ⟨rfl, rfl⟩; rw [H3.out])
            go_ret
            rw [H.out, if_neg (by omega)]; exact ⟨rfl, hxx⟩
end

end Go.Proofs.Ytfdkbhbnldcbmaa

namespace Go.Proofs.Ytfdkbhbnldcbmaa
open Go.RowKit
set_option linter.unusedVariables false
set_option linter.unusedSimpArgs false

section
variable (s f : Bool) (A1 : Option Addr) (n1 c1 : Nat) (A2 : Option Addr) (n2 c2 : Nat) (A3 : Option Addr) (n3 c3 : Nat) (A4 : Option Addr) (n4 c4 : Nat) (q : Int) (r : Rule) (w : World)

set_option maxRecDepth 100000 in
set_option maxHeartbeats 2000000 in
theorem Wrong_any (h : RuleV w s f A1 n1 c1 A2 n2 c2 A3 n3 c3 A4 n4 c4 q r) :
    Calls Try.prog 23 #[.agg #[.bool s, .bool f, .slice A1 n1 c1, .slice A2 n2 c2, .slice A3 n3 c3, .slice A4 n4 c4, .int .i64 q]] w
      fun e w' => e = .returned (.int .i64 (wrongRule r)) ∧ Ext w w' := by
  have eg := enters Try.func85 (by kernel_rfl) rfl
  have hS := sides_new s f A1 n1 c1 A2 n2 c2 A3 n3 c3 A4 n4 c4 q r w h ((Ext.refl w).alloc (.cells #[.bool s, .bool f, .slice A1 n1 c1, .slice A2 n2 c2, .slice A3 n3 c3, .slice A4 n4 c4, .int .i64 q] 25)) 22
  have hx2 : Ext w ((w.alloc (.cells #[.bool s, .bool f, .slice A1 n1 c1, .slice A2 n2 c2, .slice A3 n3 c3, .slice A4 n4 c4, .int .i64 q] 25)).alloc (.cells #[.slice A1 n1 c1, .slice A2 n2 c2, .slice A3 n3 c3] 22)) := ((Ext.refl _).alloc _).alloc _
  have b3 : ((w.alloc (.cells #[.bool s, .bool f, .slice A1 n1 c1, .slice A2 n2 c2, .slice A3 n3 c3, .slice A4 n4 c4, .int .i64 q] 25)).alloc (.cells #[.slice A1 n1 c1, .slice A2 n2 c2, .slice A3 n3 c3] 22)).cell? ⟨w.heap.size, 3, none⟩ = some (.slice A2 n2 c2) := by simp
  have b5 : ((w.alloc (.cells #[.bool s, .bool f, .slice A1 n1 c1, .slice A2 n2 c2, .slice A3 n3 c3, .slice A4 n4 c4, .int .i64 q] 25)).alloc (.cells #[.slice A1 n1 c1, .slice A2 n2 c2, .slice A3 n3 c3] 22)).cell? ⟨w.heap.size, 5, none⟩ = some (.slice A4 n4 c4) := by simp
  have b6 : ((w.alloc (.cells #[.bool s, .bool f, .slice A1 n1 c1, .slice A2 n2 c2, .slice A3 n3 c3, .slice A4 n4 c4, .int .i64 q] 25)).alloc (.cells #[.slice A1 n1 c1, .slice A2 n2 c2, .slice A3 n3 c3] 22)).cell? ⟨w.heap.size, 6, none⟩ = some (.int .i64 q) := by simp
  simp only [World.size_alloc] at hS
  have HR := Lib.hid h; clear h
  go_enter Try.func23, Try.ntmps23
  go_wp2
  generalize (w.alloc (.cells #[.bool s, .bool f, .slice A1 n1 c1, .slice A2 n2 c2, .slice A3 n3 c3, .slice A4 n4 c4, .int .i64 q] 25)).alloc (.cells #[.slice A1 n1 c1, .slice A2 n2 c2, .slice A3 n3 c3] 22) = w2 at *
  go_loopw [16] (fun i wr => ∃ k : Nat, k ≤ 3 ∧ i = .int .i64 k ∧ wrongSides [r.before, r.source, r.after] = wrongSides ([r.before, r.source, r.after].drop k) ∧ Ext w2 wr) (fun i _ => 3 - (intOf i).toNat)
  case atStart => exact ⟨0, by omega, rfl, rfl, Ext.refl _⟩
  case round =>
    obtain ⟨k, hk, rfl, hkk, hx⟩ := hrel
    have HK := Lib.hid hkk; clear hkk
    by_cases hlt : k < 3
    · obtain ⟨S, hSS⟩ := hS.idx hlt
      obtain ⟨bb, oo, A', n', c', hA, ⟨_, hne⟩, hc, hsl⟩ := (hS.ext (keep_sl keep_set) hx).sl hSS
      simp only [Option.some.injEq, Addr.mk.injEq, and_true] at hA
      obtain ⟨rfl, rfl⟩ := hA
      simp only [Nat.zero_add] at hc
      have HD := Lib.hid (drop_cons hSS); clear hSS
      have hm := hsl.max; unfold maxLen at hm
      have hcap := hsl.cap
      by_cases hbig : 20 < n'
      · have e : wrongRule r = 5 := by
          have h5 := wrongSide_big hsl.len hbig
          have : wrongSides [r.before, r.source, r.after] = 5 := by rw [HK.out, HD.out, wrongSides_bad (by rw [h5]; omega), h5]
          rw [wrongRule_sides (by rw [this]; omega), this]
        have H := Lib.hid e; clear e
        go_wp2
        go_ret
        rw [H.out]
        exact ⟨rfl, hx2.trans hx⟩
      · have H5 := Lib.hid (wrongSide_small hsl.len hbig)
        have hlen := Lib.hid hsl.len
        have hk3 : decide ((k : Int) < 3) = true := by simp; omega
        obtain ⟨wo, rfl⟩ : ∃ wo : World, wo = wr := ⟨_, rfl⟩
        go_wp2
        go_loopw [25] (fun i wq => ∃ j : Nat, j ≤ n' ∧ i = .int .i64 j ∧ wrongSets S = wrongSets (S.drop j) ∧ Ext wo wq) (fun i _ => n' - (intOf i).toNat)
        case atStart => exact ⟨0, by omega, rfl, rfl, Ext.refl _⟩
        case round =>
          obtain ⟨j, hj, rfl, hjj, hy⟩ := hrel
          have HJ := Lib.hid hjj; clear hjj
          by_cases hlj : j < n'
          · obtain ⟨T, hTT⟩ := hsl.idx hlj
            obtain ⟨b2, o2, A2', n2', c2', rfl, ⟨_, hne2⟩, hc2, hst⟩ := (hsl.ext keep_set hy).sl hTT
            have HD2 := Lib.hid (drop_cons hTT); clear hTT
            have hbd := wrongSet_bd T
            have HC := Lib.hid (setsWrong_any A2' n2' c2' T wr hst)
            by_cases hz : wrongSet T = 0
            · have HZ := Lib.hid hz; clear hz hbd
              go_wp2_with (go_at_call 54; refine HC.out.mono ?_; rintro e w1 ⟨rfl, hx1⟩; rw [HZ.out])
              go_roundw
              case rel => exact ⟨j + 1, by omega, by go_num, by rw [HJ.out, HD2.out, wrongSets_ok HZ.out], hy.trans hx1⟩
              case measure => simp [intOf]; omega
            · have e : wrongRule r = wrongSet T := by
                have h1 : wrongSets S = wrongSet T := by rw [HJ.out, HD2.out, wrongSets_bad hz]
                have h2 : wrongSide S = wrongSet T := by rw [H5.out, h1]
                have h3 : wrongSides [r.before, r.source, r.after] = wrongSet T := by rw [HK.out, HD.out, wrongSides_bad (by rw [h2]; exact hz), h2]
                rw [wrongRule_sides (by rw [h3]; exact hz), h3]
              have H := Lib.hid e; clear e
              have hz' : (wrongSet T != 0) = true := by simpa using hz
              go_wp2_with (go_at_call 54; refine HC.out.mono ?_; rintro e w1 ⟨rfl, hx1⟩)
              go_ret
              rw [H.out]
              exact ⟨rfl, hx2.trans (hx.trans (hy.trans hx1))⟩
          · have hs0 : wrongSets S = 0 := by rw [HJ.out, drop_end hlen.out hlj]; rfl
            have HS0 := Lib.hid hs0; clear hs0
            go_wp2
            go_roundw
            case rel => exact ⟨k + 1, by omega, by go_num, by rw [HK.out, HD.out, wrongSides_ok (by rw [H5.out, HS0.out])], hx.trans hy⟩
            case measure => simp [intOf]; omega
    · have b3' := hx.cell b3
      have b5' := hx.cell b5
      have b6' := hx.cell b6
      have hs0 : wrongSides [r.before, r.source, r.after] = 0 := by rw [HK.out, drop_end (n := 3) rfl hlt]; rfl
      have h := HR.out
      have hrest := Lib.hid (wrongRule_rest hs0)
      have hmT := h.target.max; unfold maxLen at hmT
      have hmS := h.source.max; unfold maxLen at hmS
      have hcT := h.target.cap
      have hcS := h.source.cap
      have hsl := Lib.hid h.source.len
      have htl := Lib.hid h.target.len
      have hq := Lib.hid h.cursor
      have HC := Lib.hid (ContainsRune_any A4 n4 c4 r.target wr 85 #[] (fun x => !right x) eg (fun W x _ => (notRight_any x W).mono fun e w' ⟨h1, h2⟩ => ⟨h1, by rw [h2]; exact Ext.refl _⟩) ((h.target.ext hx2).ext hx))
      have hxx := hx2.trans hx
      clear hs0 HK hS hx h
      by_cases t1 : n2 = 0
      · have t1' : ((n2 : Int) == 0) = true := by simpa using t1
        have e : wrongRule r = 6 := by rw [hrest.out]; unfold wrongRest; rw [if_pos (by rw [hsl.out]; omega)]
        have H := Lib.hid e; clear e
        go_wp2
        go_ret
        rw [H.out]; exact ⟨rfl, hxx⟩
      have t1' : ((n2 : Int) == 0) = false := by simpa using t1
      by_cases t2 : 20 < n4
      · have e : wrongRule r = 5 := by rw [hrest.out]; unfold wrongRest; rw [if_neg (by rw [hsl.out]; omega), if_pos (by rw [htl.out]; omega)]
        have H := Lib.hid e; clear e
        go_wp2
        go_ret
        rw [H.out]; exact ⟨rfl, hxx⟩
      cases t3 : r.target.all right
      · have e : wrongRule r = 3 := by rw [hrest.out]; unfold wrongRest; rw [if_neg (by rw [hsl.out]; omega), if_neg (by rw [htl.out]; omega), if_pos (by rw [t3]; rfl)]
        have H := Lib.hid e; clear e
        have e3 : (r.target.any fun x => !right x) = !r.target.all right := any_not _ _
        simp only [t3, Bool.not_true, Bool.not_false] at e3
        have H3 := Lib.hid e3; clear t3 e3
        go_wp2_with (go_at_call 84; refine HC.out.mono ?_; rintro e w1 ⟨rfl, hx1⟩; rw [H3.out]; have b5w := hx1.cell b5'; have b6w := hx1.cell b6')
        go_ret
        rw [H.out]; exact ⟨rfl, hxx.trans hx1⟩
      · have e : wrongRule r = if q < 0 ∨ (n4 : Int) < q then 3 else 0 := by rw [hrest.out]; unfold wrongRest; rw [if_neg (by rw [hsl.out]; omega), if_neg (by rw [htl.out]; omega), if_neg (by rw [t3]; simp), htl.out, hq.out]
        have H := Lib.hid e; clear e
        have e3 : (r.target.any fun x => !right x) = !r.target.all right := any_not _ _
        simp only [t3, Bool.not_true, Bool.not_false] at e3
        have H3 := Lib.hid e3; clear t3 e3
        by_cases t4 : q < 0
        · go_wp2_with (go_at_call 84; refine HC.out.mono ?_; rintro e w1 ⟨rfl, hx1⟩; rw [H3.out]; have b5w := hx1.cell b5'; have b6w := hx1.cell b6')
          go_ret
          rw [H.out, if_pos (Or.inl t4)]; exact ⟨rfl, hxx.trans hx1⟩
        · by_cases t5 : (n4 : Int) < q
          · go_wp2_with (go_at_call 84; refine HC.out.mono ?_; rintro e w1 ⟨rfl, hx1⟩; rw [H3.out]; have b5w := hx1.cell b5'; have b6w := hx1.cell b6')
            go_ret
            rw [H.out, if_pos (Or.inr t5)]; exact ⟨rfl, hxx.trans hx1⟩
          · go_wp2_with (go_at_call 84; refine HC.out.mono ?_; rintro e w1 ⟨rfl, hx1⟩; rw [H3.out]; have b5w := hx1.cell b5'; have b6w := hx1.cell b6')
            go_ret
            rw [H.out, if_neg (by omega)]; exact ⟨rfl, hxx.trans hx1⟩
end

end Go.Proofs.Ytfdkbhbnldcbmaa
