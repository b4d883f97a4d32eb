/- Walk: the document's Masked. -/
import Derived.Test.YtfdkbhbnldcbmaaW54
namespace Go.Proofs.Ytfdkbhbnldcbmaa
open Go.RowKit
set_option linter.unusedVariables false
set_option linter.unusedSimpArgs false

def MasR (l : List Rule) (w' : World) (e : Ending) : Prop := ∃ A c, e = .returned (.slice A (maskedTo l l.length).length c) ∧ Ints w' A (maskedTo l l.length).length c ((maskedTo l l.length).map fun i : Nat => (i : Int))

set_option maxRecDepth 100000 in
set_option maxHeartbeats 4000000 in
theorem refMasked_any (A : Option Addr) (n c : Nat) (l : List Rule) (w : World) (h : Rules w A n c l) (hok : ∀ r ∈ l, OkRule r) (hn2 : n ≤ 200) :
    Calls Try.prog 82 #[.slice A n c] w fun e w' => MasR l w' e ∧ Ext w w' := by
  have hcap := h.cap
  have hlen := Lib.hid h.len
  have OK := Lib.hid hok
  clear hok
  go_enter Try.func82, Try.ntmps82
  go_wp2_with fail
  go_loopw [3, 8] (fun v i wr => ∃ k : Nat, k ≤ n ∧ i = .int .i64 k ∧ OwnR rInt 3 1 w.heap.size wr v ((maskedTo l k).map fun i : Nat => (i : Int)) ∧ Ext w wr) (fun _ i _ => n - (intOf i).toNat)
  case atStart => exact ⟨0, by omega, rfl, OwnR.nil _ _ _ _ _, Ext.refl _⟩
  case round =>
    obtain ⟨k, hk, rfl, ow, hx⟩ := hrel
    by_cases hlt : k < n
    · obtain ⟨b, hbb⟩ := h.idx hlt
      have okb := Lib.hid (OK.out b (List.mem_of_getElem? hbb))
      have HM := Lib.hid (isMasked_at hbb)
      have HBB := Lib.hid hbb
      have hml := maskedTo_len l k
      have hlt' : (k : Int) < (n : Int) := by omega
      clear hbb
      obtain ⟨w3, rfl⟩ : ∃ w3 : World, w3 = wr := ⟨_, rfl⟩
      go_upto_region 6 with fail
      go_loopw [3, 5] (fun v i wr => ∃ g : Nat, g ≤ k ∧ i = .int .i64 g ∧ OwnR rInt 3 1 w.heap.size wr v ((maskedTo l k).map fun i : Nat => (i : Int)) ∧ Hid (((l.take k).any fun a => masksB a b) = (((l.take k).drop g).any fun a => masksB a b)) ∧ Ext w3 wr) (fun _ i _ => k - (intOf i).toNat)
      case atStart => exact ⟨0, by omega, rfl, ow, Lib.hid rfl, Ext.refl _⟩
      case round =>
        obtain ⟨g, hg, rfl, ow3, HG, hx3⟩ := hrel
        have ex := hx.trans hx3
        by_cases hlt2 : g < k
        · obtain ⟨a, haa⟩ := h.idx (k := g) (by omega)
          have oka := OK.out a (List.mem_of_getElem? haa)
          obtain ⟨b1, o1, s, f, A1, n1, c1, A2, n2, c2, A3, n3, c3, A4, n4, c4, q, rfl, ⟨_, hne⟩, hv, i0, i1, i2, i3, i4, i5, i6⟩ := (h.ext ex).rule haa
          obtain ⟨b2, o2, s', f', B1, m1, d1, B2, m2, d2, B3, m3, d3, B4, m4, d4, q', e', ⟨_, hne'⟩, hv', j0, j1, j2, j3, j4, j5, j6⟩ := (h.ext ex).rule HBB.out
          cases e'
          have HC := Lib.hid (refMasks_any s f A1 n1 c1 A2 n2 c2 A3 n3 c3 A4 n4 c4 q a s' f' B1 m1 d1 B2 m2 d2 B3 m3 d3 B4 m4 d4 q' b wr.drew (hv.ext ((Ext.refl wr).drew.agree top)) (hv'.ext ((Ext.refl wr).drew.agree top)) oka okb.out)
          have hta : (l.take k)[g]? = some a := by rw [List.getElem?_take_of_lt hlt2]; exact haa
          have HD := Lib.hid (drop_cons hta)
          have hgi : (g : Int) < (n : Int) := by omega
          clear haa oka hv hv' hta
          go_wp2_with fail
          go_still_tail 8, (by kernel_rfl)
          change wpList _ _ _ _ _ wr.drew
          clear i0 i1 i2 i3 i4 i5 i6 j0 j1 j2 j3 j4 j5 j6
          cases hmb : masksB a b
          · have HG2 : Hid (((l.take k).any fun a => masksB a b) = (((l.take k).drop (g + 1)).any fun a => masksB a b)) := Lib.hid (by rw [HG.out, HD.out, List.any_cons, hmb, Bool.false_or])
            have HB2 := Lib.hid hmb; clear hmb
            go_wp2_with (go_at_call 78; refine HC.out.mono ?_; rintro e w5 ⟨rfl, x5⟩; rw [HB2.out])
            go_roundw
            case rel => exact ⟨g + 1, by omega, by go_num, ow3.ext (keep_int bot) ((Ext.refl _).drew.trans x5), HG2, hx3.drew.trans x5⟩
            case measure => simp [intOf]; omega
          · have hmk : isMasked l k = true := by rw [HM.out, HG.out, HD.out, List.any_cons, hmb, Bool.true_or]
            have HMk := Lib.hid (maskedTo_yes hmk)
            have HB2 := Lib.hid hmb; clear hmb hmk
            have d3 := hx3.drew
            go_wp2_with (first
              | (go_at_call 78; refine HC.out.mono ?_; rintro e w5 ⟨rfl, x5⟩; rw [HB2.out]; have f5 := (d3.trans x5).alloc (.cells #[.int .i64 k] 3); have ow5 := ow3.ext (keep_int bot) (((Ext.refl wr).drew.trans x5).alloc (.cells #[.int .i64 k] 3)); have s5 := one_newI w5 k 3 (by unfold i64; omega); have g5 := hx.trans f5)
              | (at_builtin
                 refine wpList_appS T_int (by omega) rfl (.tmp 25) (.tmp 27) rfl rfl ow5 rfl s5 (fun _ _ h => h) one_int (keep_int bot) (bot_no _) ?_ g5.size ?_
                 · rw [List.length_map]; omega
                 intro v6 w6 o6 g6 hat6
                 have g7 := g5.app g6 ow5))
            go_roundw
            case rel => exact ⟨k + 1, by omega, by go_num, by rw [HMk.out, List.map_append]; exact o6, g7⟩
            case measure => simp [intOf]; omega
        · have hgk : g = k := by omega
          subst hgk
          have hmk : isMasked l g = false := by rw [HM.out, HG.out, List.drop_of_length_le (by rw [List.length_take]; omega)]; rfl
          have HMk := Lib.hid (maskedTo_no hmk)
          clear hmk
          go_wp2
          go_roundw
          case rel => exact ⟨g + 1, by omega, by go_num, by rw [HMk.out]; exact ow3, hx.trans hx3⟩
          case measure => simp [intOf]; omega
    · have e : k = n := by omega
      subst e
      obtain ⟨AO, cO, rfl, sO⟩ := ow.top
      go_wp2
      go_ret
      have hl := hlen.out
      simp only [List.length_map] at sO
      subst hl
      exact ⟨⟨AO, cO, by simp, sO⟩, hx⟩

end Go.Proofs.Ytfdkbhbnldcbmaa
