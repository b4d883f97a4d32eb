/- Walk of Put. -/
import Derived.Test.YtpnflnocmekpnaaG5
namespace Go.Proofs.Ytpnflnocmekpnaa
open Go.RowKit
set_option linter.unusedVariables false
set_option linter.unusedSimpArgs false

theorem put_plain {L l : List Int} {a tz n : Nat} (hl : l.length = n) (h1 : a + n ≤ tz) (h2 : tz ≤ L.length) :
    (splice L a l).take (a + n) ++ (splice L a l).drop tz = L.take a ++ l ++ L.drop tz := by
  have ha : (L.take a).length = a := by simp; omega
  have e : splice L a l = (L.take a ++ l) ++ L.drop (a + n) := by simp [splice, hl]
  have hal : (L.take a ++ l).length = a + n := by rw [List.length_append, ha, hl]
  rw [e, List.take_append_of_le_length (by omega), List.take_of_length_le (by omega), List.drop_append, List.drop_of_length_le (l := L.take a ++ l) (by omega), List.nil_append, List.drop_drop, hal, show a + n + (tz - (a + n)) = tz by omega]
theorem text_cut {L t : List Int} {a tz : Nat} (e : t = L.take a ++ L.drop tz) (h : a ≤ L.length) : t.take a = L.take a ∧ t.drop a = L.drop tz := by
  have ha : (L.take a).length = a := by simp; omega
  constructor
  · rw [e, List.take_append_of_le_length (by omega), List.take_of_length_le (by omega)]
  · rw [e, List.drop_append, List.drop_of_length_le (by omega), List.nil_append, ha, Nat.sub_self, List.drop_zero]

set_option maxRecDepth 100000 in
set_option maxHeartbeats 4000000 in
theorem Put_any {base : Nat} {w : World} {pb : Nat} {t : List Int} {a : Nat} (h : Buf base w pb t a) {A : Option Addr} {n c : Nat} {l : List Int} (s : SlR rRune 1 (fun b => b < base) w A n c l) (hn : t.length + n ≤ 4000) (hbase : base ≤ w.heap.size) :
    Calls Try.prog 12 #[.pointer (some ⟨pb, 0, none⟩), .slice A n c] w fun e w' => e = .returned (.tuple #[]) ∧ Below base w w' ∧ Buf base w' pb (t.take a ++ l ++ t.drop a) (a + n) := by
  obtain ⟨ab, L, tz, hb, b1, b2, e⟩ := h
  obtain ⟨hl, ht⟩ := Buf.len (base := base) hb e
  have hsl := s.len
  have l1 := hb.le; have l2 := hb.le'; have l3 := hb.max
  obtain ⟨et, ed⟩ := text_cut e (by omega)
  have HR := Lib.hid (room_any hb b1 b2 n (by omega) hbase)
  have ET := Lib.hid et; have ED := Lib.hid ed; have S := Lib.hid s; have HSL := Lib.hid hsl
  have hnn : n ≤ 4000 := by omega
  clear hb e et ed s hsl
  go_enter Try.func12, Try.ntmps12
  go_upto_region 1 with (go_at_call 16; refine HR.out.mono ?_; rintro e w1 ⟨rfl, hB, hO, ab', L', tz', hb', b2', hgap, hT⟩)
  have l1' := hb'.le; have l2' := hb'.le'; have l3' := hb'.max
  have s1 : Runes w1.drew A n c l := Runes.ext ((S.out.keep (keep_rune _) (fun b hb _ => hB.block b hb)).mono (fun _ _ h => h) (fun _ _ => trivial)) (Ext.refl w1).drew
  have hw : IntKind.i64.wrap ((a : Int) + (n : Int)) = ((a + n : Nat) : Int) := by rw [IntWalk.i64_in _ (by omega)]; omega
  have hc : ∀ W, (Instr.sliceAt 22 (.slice (some ⟨ab', 0, none⟩) L'.length L'.length) (some (.int .i64 (a : Int))) none none).run Try.prog W = .ok (.slice (cutA (some ⟨ab', 0, none⟩) L'.length a 1) (L'.length - a) (L'.length - a)) W := fun W => run_cut_l tRunes _ _ _ a a rfl (by omega) W
  have hA : 0 < n → cutA (some ⟨ab', 0, none⟩) L'.length a 1 = some ⟨ab', a, none⟩ := fun h0 => by unfold cutA; rw [if_neg (by omega)]; simp [addr_add]
  have h0 := hb'.c0; have h1 := hb'.c1
  have B2 := Lib.hid (hb'.ext (Ext.refl w1).drew)
  have hm : n ≤ L'.length - a := by omega
  have hfit : a + n ≤ L'.length := by omega
  have HB := Lib.hid hB; have HT := Lib.hid hT; have S1 := Lib.hid s1
  have hgap' : a + n ≤ tz' := by omega
  clear hb' s1 hB hO hT hgap
  go_region_law (refine step_copyR rfl (.tmp 20) (.tmp 21) _ _ rfl _ Try.underlying22 sizeRune _ _ _ _ _ _ rfl rfl S1.out hm ab' a L' _ B2.out.ha hA hfit ?_; intro w4 hg4 hb4 ho4; have B4 := Lib.hid (B2.out.spliced (M := l) (off := a) (by rw [HSL.out]; exact hfit) (Runes.ok S1.out) hg4.out ho4.out); have i1 := B4.out.c1; have ifz := B4.out.fp 1)
  all_goals
    have hb5 := B4.out.setFr (f := a + n) hgap'
    have hB5 := (Below.trans HB.out.drew (Below.mono hb4 b2')).setCell (p := ⟨pb, 1, none⟩) b1 (.int .i64 ((a + n : Nat) : Int))
    have B5 := Lib.hid hb5; have HB5 := Lib.hid hB5
    clear hb5 hB5 B4 hg4 ho4 hb4 i1 ifz h0 h1 hc
    go_wp2
    go_end0
    refine ⟨rfl, HB5.out, ab', _, tz', B5.out, b1, b2', ?_⟩
    rw [put_plain HSL.out hgap' l2', ET.out, ED.out]
    have := text_cut (L := L') (a := a) (tz := tz') rfl (by omega)
    rw [HT.out] at this
    have h2 := text_cut (L := L) (a := a) (tz := tz) rfl (by omega)
    rw [← this.1, ← this.2, h2.1, h2.2]

end Go.Proofs.Ytpnflnocmekpnaa
