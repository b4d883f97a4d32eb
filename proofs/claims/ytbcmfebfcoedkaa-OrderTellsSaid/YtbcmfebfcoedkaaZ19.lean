/- Walk: norm.Apart. -/
import Derived.Test.YtbcmfebfcoedkaaZ18
import Derived.Test.YtbcmfebfcoedkaaZ11
namespace Go.Proofs.Ytbcmfebfcoedkaa
open Go.RowKit Go.Sort
set_option linter.unusedVariables false
set_option linter.unusedSimpArgs false

/-! ### a row of the call's own, turned in place -/
theorem own_holds {e : TypeId} {base : Nat} {w : World} {v : Value} {l : List Int} (h : OwnR rRune e 1 base w v l) :
    (l = [] ∧ v = .slice none 0 0) ∨ ∃ g cap, v = .slice (some ⟨g, 0, none⟩) l.length cap ∧ base ≤ g ∧ g < w.heap.size ∧ Holds (Value.int .i32) w g 0 l.toArray ∧ l.length ≤ cap ∧ cap ≤ maxLen := by
  have hlt := h.lt
  obtain ⟨A, c, hv, hs⟩ := h.top
  obtain ⟨xs, ⟨hl, h | ⟨g, cap, cur, rfl, hb, hh, h1, h2, h3, h4⟩⟩, he⟩ := h
  · left; exact ⟨List.eq_nil_of_length_eq_zero h.2, h.1⟩
  · right
    refine ⟨g, cap, rfl, hb, (hlt g rfl).2, fun j hj => ?_, h1, h2⟩
    have hj' : j < l.length := by simpa using hj
    injection hv with e1 e2 e3
    subst e1
    have := hs.cellAt (List.getElem?_eq_getElem hj')
    refine ⟨?_, ?_⟩
    · rw [toArray_get, List.getD_eq_getElem?_getD, List.getElem?_eq_getElem hj']; exact this
    · simp [World.frozen?, hh]
theorem holds_own {e : TypeId} {base : Nat} {w w' : World} {v : Value} {l l' : List Int} {g cap : Nat} (h : OwnR rRune e 1 base w v l) (hv : v = .slice (some ⟨g, 0, none⟩) l.length cap) (hl : l'.length = l.length) (hi : ∀ r ∈ l', i32 r)
    (hx : Ext (putRow (Value.int .i32) w g 0 l'.toArray) w') : OwnR rRune e 1 base w' v l' := by
  obtain ⟨xs, ⟨hxl, h | ⟨g', cap', cur, e1, hb, hh, h1, h2, h3, h4⟩⟩, he⟩ := h
  · rw [hv] at h; obtain ⟨h, _⟩ := h; cases h
  · rw [hv] at e1
    injection e1 with e1 e2 e3
    injection e1 with e1
    injection e1 with e1
    subst e1 e3
    have hg : g < w.heap.size := (Array.getElem?_eq_some_iff.1 hh).1
    have hp : (putRow (Value.int .i32) w g 0 l'.toArray).heap[g]? = some (.cells (putCells (Value.int .i32) 0 l'.toArray cur) e (0, 0)) := by
      simp [putRow, mapBlock, Array.getElem?_modify, hh, onCells]
    have hp' := (hx.block (b := g) (by rw [size_put]; exact hg)).trans hp
    refine ⟨l'.map (Value.int .i32), ⟨by simp, .inr ⟨g, cap, _, by rw [hv, hl], hb, hp', by rw [hl]; exact h1, h2, by simp [putCells, h3], ?_⟩⟩, ?_⟩
    · apply List.ext_getElem?
      intro k
      rw [List.getElem?_take]
      by_cases hk : k < l'.length * 1
      · rw [if_pos hk]
        have hk' : k < cur.size := by omega
        have hk2 : k < l'.length := by omega
        simp only [putCells, Array.getElem?_toList, Array.getElem?_mapIdx, Array.getElem?_eq_getElem hk', Option.map_some, List.getElem?_map]
        rw [if_pos ⟨by omega, by simp; omega⟩, toArray_get, Nat.sub_zero, List.getD_eq_getElem?_getD, List.getElem?_eq_getElem hk2]
        rfl
      · rw [if_neg hk, List.getElem?_map, List.getElem?_eq_none (by omega)]; rfl
    · refine Enc.of_get _ _ (by simp) ?_
      intro k x hx'
      refine ⟨[.int .i32 x], rfl, ⟨rfl, hi x (List.mem_of_getElem? hx')⟩, fun j u hu => ?_⟩
      match j, hu with
      | 0, hu =>
        simp only [List.getElem?_cons_zero, Option.some.injEq] at hu
        subst hu
        simp [hx']
theorem ext_put {a w : World} {k : IntKind} (h : Ext a w) {g off : Nat} (hg : a.heap.size ≤ g) (d : Array Int) : Ext a (putRow (Value.int k) w g off d) := by
  have h1 := Ext.below h
  refine ⟨h1.os, h1.tape, h1.output, by simpa [putRow, mapBlock] using h1.size, fun q hq => ?_⟩
  simp only [putRow, mapBlock, Array.getElem?_modify]
  rw [if_neg (by omega)]
  exact h1.block q hq

/-! ### plain -/
def fullL (r : Int) : List Int := fullD 2 r
def flatL (l : List Int) : List Int := l.flatMap fullL
def apartE (l : List Int) : Int := if wrongText l ≠ 0 then wrongText l else if 4000 < (flatL l).length then 4 else 0
def apartV (l : List Int) : List Int := if apartE l = 0 then nsort (flatL l) else []
theorem fullD_i32 : ∀ (d : Nat) (r : Int), i32 r → ∀ x ∈ fullD d r, i32 x
  | 0, r, h, x, hx => by simp [fullD] at hx; subst hx; exact h
  | d + 1, r, h, x, hx => by
    cases hf : fw r with
    | none => simp [fullD, hf] at hx; subst hx; exact h
    | some p =>
      simp only [fullD, hf, List.mem_append, List.mem_singleton] at hx
      have hp := pairs_i32 (fw_mem hf).1
      rcases hx with hx | rfl
      · exact fullD_i32 d p.base hp.1 x hx
      · exact hp.2.1
theorem nsort_mem : ∀ {l : List Int} {x : Int}, x ∈ nsort l → x ∈ l := by
  intro l
  induction hn : l.length generalizing l with
  | zero => intro x h; rw [List.eq_nil_of_length_eq_zero hn] at h; simp [nsort] at h
  | succ n ih =>
    intro x h
    have hne : l ≠ [] := fun e => by rw [e] at hn; simp at hn
    obtain ⟨l0, y, rfl⟩ : ∃ l0 y, l = l0 ++ [y] := ⟨_, _, (List.dropLast_concat_getLast hne).symm⟩
    rw [nsort_snoc] at h
    rcases insR_mem h with h | h
    · subst h; simp
    · have := ih (l := l0) (by simp at hn; omega) h; simp [this]
theorem flat_i32 {l : List Int} (h : ∀ r ∈ l, i32 r) : ∀ x ∈ flatL l, i32 x := fun x hx => by
  obtain ⟨r, hr, hx⟩ := List.mem_flatMap.1 hx
  exact fullD_i32 2 r (h r hr) x hx
theorem flat_len (l : List Int) : (flatL l).length ≤ 3 * l.length := by
  induction l with
  | nil => simp [flatL]
  | cons r l ih =>
    have := fullD_len 2 r
    have e : flatL (r :: l) = fullL r ++ flatL l := by simp [flatL]
    rw [e, List.length_append]
    unfold fullL
    simp only [List.length_cons]; omega
theorem flat_snoc {l : List Int} {k : Nat} {x : Int} (h : l[k]? = some x) : flatL (l.take (k + 1)) = flatL (l.take k) ++ fullL x := by rw [take_snoc h]; simp [flatL]
theorem Runes.i32 {w : World} {A : Option Addr} {n c : Nat} {l : List Int} (h : Runes w A n c l) : ∀ r ∈ l, i32 r := fun r hr => by
  obtain ⟨k, hk, rfl⟩ := List.getElem_of_mem hr
  obtain ⟨_, _, _, _, _, h1, h2⟩ := h.rune (List.getElem?_eq_getElem hk)
  exact ⟨h1, h2⟩

/-- what a call of Apart's kind leaves -/
structure TextR (w : World) (er : Int) (l : List Int) (e : Ending) (w' : World) : Prop where
  ret : ∃ v, e = .returned (.tuple #[v, .int .i64 er]) ∧ OwnR rRune 21 1 w.heap.size w' v l
  ext : Ext w w'

set_option maxRecDepth 1000000 in
set_option maxHeartbeats 6400000 in
theorem Apart_any (A : Option Addr) (n c : Nat) (l : List Int) (w : World) (h : Runes w A n c l) :
    Calls Try.prog 9 #[.slice A n c] w fun e w' => TextR w (apartE l) (apartV l) e w' := by
  have hm := h.max; unfold maxLen at hm
  have hcap := h.cap
  have C1 := Lib.hid (Text_any A n c l w h)
  by_cases hw : wrongText l = 0
  · have hn : n ≤ 4000 := by
      rw [← h.len]
      unfold wrongText at hw
      by_cases hb : 4000 < l.length
      · rw [if_pos hb] at hw; cases hw
      · omega
    have HE := Lib.hid (show apartE l = if 4000 < (flatL l).length then 4 else 0 by unfold apartE; rw [if_neg (by simp [hw])])
    have HL := Lib.hid h.len
    have H := Lib.hid h
    have HF := Lib.hid (flat_i32 h.i32)
    rw [hw] at C1
    clear h hw
    go_enter Try.func9, Try.ntmps9
    go_wp2_with (first
      | (go_at_call 25; ((with_reducible refine C1.out.mono ?_); rintro e w1 ⟨rfl, x1⟩; have C2 := Lib.hid (made_any w1); have X1 := Lib.hid x1; clear x1))
      | (go_at_call 26; ((with_reducible refine C2.out.mono ?_); rintro e w2 ⟨b1, b2, rfl, m1, m2, x2⟩; have X2 := Lib.hid (X1.out.trans x2); have M1 := Lib.hid m1; clear m1 m2 x2)))
    have e3 := (Ext.refl w2).alloc (.cells #[.map (some b1), .map (some b2)] 57)
    have c0 : (w2.alloc (.cells #[.map (some b1), .map (some b2)] 57)).cell? ⟨w2.heap.size, 0, none⟩ = some (.map (some b1)) := cell_new _ _ _ _ _ rfl
    have c1 : (w2.alloc (.cells #[.map (some b1), .map (some b2)] 57)).cell? ⟨w2.heap.size, 1, none⟩ = some (.map (some b2)) := cell_new _ _ _ _ _ rfl
    have sz : (w2.alloc (.cells #[.map (some b1), .map (some b2)] 57)).heap.size = w2.heap.size + 1 := by simp
    have X3 := Lib.hid (X2.out.trans e3)
    have M3 := Lib.hid (M1.out.ext e3)
    generalize w2.alloc (.cells #[.map (some b1), .map (some b2)] 57) = w3 at *
    have FU := Lib.hid (fun r w v L => full_any w3 b1 b2 M3.out 2 r w v L (lvl_two r))
    have KC := Lib.hid (fun W (e : Ext w3 W) => show W.cell? ⟨w2.heap.size, 0, none⟩ = some (.map (some b1)) ∧ W.cell? ⟨w2.heap.size, 1, none⟩ = some (.map (some b2)) from ⟨e.cell c0, e.cell c1⟩)
    have SZ := Lib.hid sz
    clear C1 C2 M1 X2 X1 e3 c0 c1 sz
    go_loopw [6, 17] (fun vo vi wr => ∃ (k : Nat) (v : Value), v = vo ∧ vi = .int .i64 k ∧ k ≤ n ∧ Hid (OwnR rRune 21 1 w3.heap.size wr v (flatL (l.take k))) ∧ Hid (Ext w3 wr)) (fun _ vi _ => n - (intOf vi).toNat)
    case atStart => exact ⟨0, _, rfl, rfl, by omega, Lib.hid (OwnR.nil _ _ _ _ _), Lib.hid (Ext.refl _)⟩
    case round =>
      obtain ⟨k, v, rfl, rfl, hk, HO, HX⟩ := hrel
      by_cases hlt : k < n
      · have gz : (k : Int) < (n : Int) := by omega
        have hR := H.out.ext (X3.out.trans HX.out)
        obtain ⟨x, hxx⟩ := hR.idx hlt
        obtain ⟨b, off, rfl, hbb, hc, hi1, hi2⟩ := hR.rune hxx
        obtain ⟨k0, k1⟩ := KC.out wr HX.out
        have hlen : (flatL (l.take k)).length + 2 ≤ 59000 := by have := flat_len (l.take k); have h5 : (l.take k).length ≤ k := (by simp; omega); omega
        have CF := Lib.hid (FU.out x wr v _ ⟨hi1, hi2⟩ HX.out HO.out hlen)
        have HS := Lib.hid (flat_snoc hxx)
        have bl : w2.heap.size < wr.heap.size ∧ w2.heap.size ≠ wr.heap.size := by have := HX.out.size; have := SZ.out; omega
        obtain ⟨bl1, bl2⟩ := bl
        clear hR hxx hlen HO
        go_wp2_with (go_at_call 27; ((with_reducible refine CF.out.mono ?_); rintro e w5 ⟨⟨v5, rfl, o5, _⟩, x5, _, _⟩; have O5 := Lib.hid o5; have X5 := Lib.hid x5; clear o5 x5))
        clear k0 k1 hc
        go_roundw
        case rel => exact ⟨k + 1, v5, rfl, by go_num, by omega, by rw [HS.out]; exact O5, X5⟩
        case measure => simp [intOf]; omega
      · have gz : ¬ (k : Int) < (n : Int) := by omega
        have hO := HO.out
        rw [List.take_of_length_le (by rw [HL.out]; omega)] at hO
        clear HO
        have hb3 : w.heap.size ≤ w3.heap.size := X3.out.size
        have X9 := Lib.hid (X3.out.trans HX.out)
        have HFL := Lib.hid (show (flatL l).length ≤ 12000 by have := flat_len l; have := HL.out; omega)
        by_cases hbig : 4000 < (flatL l).length
        · have e0 : apartE l = 4 := by rw [HE.out, if_pos hbig]
          have e1 : apartV l = [] := by unfold apartV; rw [e0]; rfl
          have E0 := Lib.hid e0; have E1 := Lib.hid e1
          obtain ⟨A', c', rfl, s2⟩ := hO.top
          have gb : (4000 : Int) < ((flatL l).length : Int) := by omega
          clear hO s2 e0 e1
          go_wp2
          go_ret2
          rw [E0.out, E1.out]
          exact ⟨⟨_, rfl, OwnR.nil _ _ _ _ _⟩, X9.out⟩
        · have e0 : apartE l = 0 := by rw [HE.out, if_neg hbig]
          have e1 : apartV l = nsort (flatL l) := by unfold apartV; rw [if_pos e0]
          have E0 := Lib.hid e0; have E1 := Lib.hid e1
          have gb : ¬ (4000 : Int) < ((flatL l).length : Int) := by omega
          rcases own_holds hO with ⟨hnil, rfl⟩ | ⟨g, cap, hve, hg1, hg2, hh, hc1, hc2⟩
          · have CS := Lib.hid (sorted_nil none 0 wr)
            have e2 : nsort (flatL l) = [] := by rw [hnil]; rfl
            have e3 : (flatL l).length = 0 := by rw [hnil]; rfl
            have E2 := Lib.hid e2
            rw [e3] at gb
            clear hO e0 e1 e2
            go_wp2_with (go_at_call 28; ((with_reducible refine CS.out.mono ?_); rintro e w6 ⟨rfl, x6⟩))
            go_ret2
            rw [E0.out, E1.out, E2.out]
            exact ⟨⟨_, rfl, OwnR.nil _ _ _ _ _⟩, X9.out.trans x6⟩
          · have CS := Lib.hid (sorted_any g 0 (flatL l).length cap (flatL l) wr hh hg2 rfl hc1 (by have := HFL.out; omega))
            have FIN := Lib.hid (fun w6 (S : SE .i32 wr g 0 (flatL l) (fun _ => True) (nsort (flatL l)) w6) => show OwnR rRune 21 1 w.heap.size w6 v (nsort (flatL l)) ∧ Ext w w6 from
              ⟨(holds_own hO hve (nsort_len _) (fun r hr => HF.out r (nsort_mem hr)) S.ext).mono hb3, (ext_put X9.out (by omega) _).trans S.ext⟩)
            subst hve
            clear hO e0 e1 hh
            generalize (flatL l).length = N at *
            go_wp2_with (go_at_call 28; ((with_reducible refine CS.out.mono ?_); rintro e w6 ⟨rfl, x6⟩))
            go_ret2
            rw [E0.out, E1.out]
            exact ⟨⟨_, rfl, (FIN.out _ x6).1⟩, (FIN.out _ x6).2⟩
  · have HE : apartE l = wrongText l := by unfold apartE; rw [if_pos (by simpa using hw)]
    have HV : apartV l = [] := by unfold apartV; rw [HE, if_neg hw]
    rw [HE, HV]
    have hn : (wrongText l != 0) = true := by simpa using hw
    clear h HE HV
    generalize wrongText l = er at *
    go_enter Try.func9, Try.ntmps9
    go_wp2_with (go_at_call 25; ((with_reducible refine C1.out.mono ?_); rintro e w1 ⟨rfl, x1⟩))
    go_ret2
    exact ⟨⟨_, rfl, OwnR.nil _ _ _ _ _⟩, x1⟩

end Go.Proofs.Ytbcmfebfcoedkaa
