/- Walk: an edge is put among others (the document's Edges, its closure). -/
import Derived.Test.YtfdkbhbnldcbmaaW8
import Derived.Test.YtfdkbhbnldcbmaaCells
import Derived.Test.YtfdkbhbnldcbmaaPl2
import Derived.Deep.RegionHeld3
import Derived.Deep.RegionLaw
import Derived.Deep.Cut
import Derived.Deep.CutRange
namespace Go.Proofs.Ytfdkbhbnldcbmaa
open Go.RowKit
set_option linter.unusedVariables false
set_option linter.unusedSimpArgs false

/-! ### where an edge goes -/
/-- how many come ahead of r -/
def placeE (r : Int) : List Int → Nat
  | [] => 0
  | x :: l => if x < r then placeE r l + 1 else 0
theorem placeE_le (r : Int) : ∀ l : List Int, placeE r l ≤ l.length
  | [] => Nat.le_refl _
  | x :: l => by unfold placeE; have := placeE_le r l; split <;> simp <;> omega
theorem placeE_lt {r : Int} : ∀ {l : List Int} {k : Nat} {x : Int}, k < placeE r l → l[k]? = some x → x < r
  | [], k, x, h, hx => by simp at hx
  | y :: l, 0, x, h, hx => by
    simp at hx; subst hx
    unfold placeE at h
    split at h
    · assumption
    · omega
  | y :: l, k + 1, x, h, hx => by
    unfold placeE at h
    split at h
    · exact placeE_lt (l := l) (k := k) (by omega) (by simpa using hx)
    · omega
theorem placeE_ge {r : Int} : ∀ {l : List Int} {x : Int}, l[placeE r l]? = some x → r ≤ x
  | [], x, hx => by simp [placeE] at hx
  | y :: l, x, hx => by
    unfold placeE at hx
    split at hx
    · exact placeE_ge (l := l) (by simpa using hx)
    · simp at hx; subst hx; omega
theorem insE_place (r : Int) : ∀ l : List Int, insE r l = if l[placeE r l]? = some r then l else l.take (placeE r l) ++ r :: l.drop (placeE r l)
  | [] => by simp [insE, placeE]
  | x :: l => by
    unfold insE placeE
    by_cases h : x < r
    · rw [if_pos h, if_pos h, insE_place r l]
      simp only [List.getElem?_cons_succ, List.take_succ_cons, List.drop_succ_cons]
      split <;> simp
    · rw [if_neg h, if_neg h]
      simp only [List.getElem?_cons_zero, Option.some.injEq, List.take_zero, List.drop_zero, List.nil_append]

/-! ### what is left as it was, but for one block -/
def notB (B : Nat) : Nat → Prop := fun b => b ≠ B
theorem setCell_agree (w : World) (B o : Nat) (u : Value) : Agree (notB B) w (w.setCell ⟨B, o, none⟩ u) := fun b hb _ => by
  have : b ≠ B := hb
  simp [World.setCell, Array.getElem?_modify, Ne.symm this]
theorem Agree.trans {ok : Nat → Prop} {a b c : World} (h : Agree ok a b) (hs : a.heap.size ≤ b.heap.size) (k : Agree ok b c) : Agree ok a c :=
  fun x ho hx => (k x ho (Nat.lt_of_lt_of_le hx hs)).trans (h x ho hx)
theorem Agree.drew {ok : Nat → Prop} {a b : World} (h : Agree ok a b) : Agree ok a b.drew := h

/-- the captured list of edges -/
structure EdAt (a w : World) (B : Nat) (v : Value) (l : List Int) : Prop where
  ext : Ext a w
  base : a.heap.size ≤ B
  wr : Wr w B
  cell : w.cell? ⟨B, 0, none⟩ = some v
  own : OwnR rRune 21 1 a.heap.size w v l
  far : v.ownBlock ≠ some B
theorem EdAt.app {a w w' : World} {B : Nat} {v : Value} {l : List Int} (h : EdAt a w B v l) (e : Ext w w') : EdAt a w' B v l :=
  ⟨h.ext.trans e, h.base, h.wr.ext e, e.cell h.cell, h.own.ext (keep_rune bot) e, h.far⟩
/-- a new list is stored -/
theorem EdAt.put {a w w3 : World} {B : Nat} {v v3 : Value} {l l3 : List Int} (h : EdAt a w B v l) (e : Ext w w3) (ho : OwnR rRune 21 1 w.heap.size w3 v3 l3) :
    EdAt a (w3.setCell ⟨B, 0, none⟩ v3) B v3 l3 := by
  have hB := h.wr.1
  have hne : v3.ownBlock ≠ some B := fun hq => by have := (ho.lt B hq).1; omega
  have hc3 := e.cell h.cell
  refine ⟨ext_set (h.ext.trans e) h.base _ _, h.base, (h.wr.ext e).set _ _, ?_, ?_, hne⟩
  · exact World.cell?_setCell_same _ _ _ hc3
  · exact (ho.mono h.ext.size).keep (keep_rune bot) (fun _ hb => hb.elim) (fun g hg => by
      refine setCell_agree w3 B 0 v3 g (fun hq => hne (by rw [hg, hq])) (ho.lt g hg).2)

/-- a row of one rune -/
theorem rune_new (w : World) (x : Int) (h : i32 x) : Runes (w.alloc (.cells #[.int .i32 x] 21)) (some ⟨w.heap.size, 0, none⟩) 1 1 [x] :=
  SlR.fresh rfl (by unfold maxLen; omega) fun k y hy => by
    match k, hy with
    | 0, hy => cases hy; exact ⟨[.int .i32 x], rfl, ⟨rfl, h⟩, fun j u hu => by match j, hu with | 0, hu => simpa using hu⟩
theorem big_rune {a b : Nat} (h : a ≤ 1114112) (k : b ≤ 1114112) : (a + b) * 4 ≤ 140737488355328 ∧ a + b ≤ maxLen := by unfold maxLen; omega

/-- a slice elsewhere reads as it did behind an append -/
theorem SlR.farB {w w' : World} {v : Value} {b n c : Nat} {l : List Int} (h : Runes w (some ⟨b, 0, none⟩) n c l) (hg : w.grownBy w' v.ownBlock) (hne : v.ownBlock ≠ some b) : Runes w' (some ⟨b, 0, none⟩) n c l :=
  ⟨h.len, h.cap, h.max, fun k x hx => by
    obtain ⟨b', off, vs, e, ho, hl, hr, hc⟩ := h.at_ k x hx
    cases e
    exact ⟨b, 0, vs, rfl, ho, hl, hr, fun j u hu => far_cell hg (hc j u hu) hne⟩⟩

def EdR (a w : World) (B : Nat) (l : List Int) : Prop := ∃ v, EdAt a w B v l

set_option maxRecDepth 100000 in
set_option maxHeartbeats 4000000 in
theorem putIn_any (a : World) (B : Nat) (v : Value) (l : List Int) (r : Int) (w : World) (h : EdAt a w B v l) (hl : l.length ≤ 1114112) (hr0 : 0 ≤ r) (hr1 : r ≤ 1114112) :
    Calls Try.prog 149 #[.int .i32 r, .pointer (some ⟨B, 0, none⟩)] w fun e w' => e = .returned (.tuple #[]) ∧ EdR a w' B (putE l r) ∧ Agree (notB B) w w' := by
  obtain ⟨A, c, rfl, hs⟩ := h.own.top
  obtain ⟨n, hn⟩ : ∃ n, n = l.length := ⟨_, rfl⟩
  obtain ⟨p, hp⟩ : ∃ p, p = placeE r l := ⟨_, rfl⟩
  have hpn : p ≤ n := by rw [hn, hp]; exact placeE_le r l
  have HP := Lib.hid hp
  have hcell := h.cell
  rw [← hn] at hs hcell hl
  have hs : Runes w A n c l := hs
  have hcap := hs.cap
  have hmax := hs.max
  unfold maxLen at hmax
  have hB := h.wr.1
  have hB' : B ≠ w.heap.size := by omega
  have hfz := h.wr.2
  have H := Lib.hid h
  have hx := h.ext
  have HN := Lib.hid hn
  clear h hp hn
  have hlt' : ∀ k, k < p → ∃ x b off, l[k]? = some x ∧ A = some ⟨b, off, none⟩ ∧ w.cell? ⟨b, off + k, none⟩ = some (.int .i32 x) ∧ x < r := fun k hk => by
    obtain ⟨x, hxx⟩ := hs.idx (k := k) (by omega)
    obtain ⟨b, off, e, _, hc, _⟩ := hs.rune hxx
    exact ⟨x, b, off, hxx, e, hc, placeE_lt (by rw [← HP.out]; exact hk) hxx⟩
  have HL := Lib.hid hlt'
  clear hlt'
  go_enter Try.func149, Try.ntmps149
  go_wp2
  go_loop [3] (fun i => ∃ k : Nat, k ≤ p ∧ i = .int .i64 k) (fun i => p - (intOf i).toNat)
  case atStart => exact ⟨0, by omega, rfl⟩
  case round =>
    obtain ⟨k, hk, rfl⟩ := hrel
    by_cases hlt : k < p
    · obtain ⟨x, b, off, _, rfl, hc, hxr⟩ := HL.out k hlt
      have t1 : decide ((k : Int) < (n : Int)) = true := by simp; omega
      have t2 : decide (x < r) = true := by simpa using hxr
      go_wp2
      go_round
      case rel => exact ⟨k + 1, by omega, by go_num⟩
      case measure => simp [intOf]; omega
    · obtain rfl : k = p := by omega
      clear HL
      have r1 := rune_new w.drew r ⟨by omega, by omega⟩
      by_cases hbig : 1114111 < r
      · have b1 : decide (1114111 < r) = true := by simpa using hbig
        have HV : Hid (putE l r = l) := Lib.hid (by unfold putE; rw [if_pos hbig])
        clear hbig
        by_cases hkn : k < n
        · obtain ⟨x, hxx⟩ := hs.idx hkn
          obtain ⟨b, off, rfl, _, hc, _⟩ := hs.rune hxx
          have hge : r ≤ x := placeE_ge (by rw [← HP.out]; exact hxx)
          have t1 : decide ((k : Int) < (n : Int)) = true := by simp; omega
          have t2 : decide (x < r) = false := by simp; omega
          clear hxx
          go_wp2
          refine bodyPost_ret (v := .tuple #[]) (by simp [results, Try.results149, go_sem]) rfl ⟨rfl, ?_, Agree.refl _ _⟩
          rw [HV.out]; exact ⟨_, H.out⟩
        · have t1 : decide ((k : Int) < (n : Int)) = false := by simp; omega
          go_wp2
          refine bodyPost_ret (v := .tuple #[]) (by simp [results, Try.results149, go_sem]) rfl ⟨rfl, ?_, Agree.refl _ _⟩
          rw [HV.out]; exact ⟨_, H.out⟩
      · have b1 : decide (1114111 < r) = false := by simpa using hbig
        have HV : Hid (putE l r = insE r l) := Lib.hid (by unfold putE; rw [if_neg hbig])
        clear hbig
        by_cases hh : l[k]? = some r
        · have HI : Hid (insE r l = l) := Lib.hid (by rw [insE_place, ← HP.out, if_pos hh])
          obtain ⟨b, off, rfl, _, hc, _⟩ := hs.rune hh
          have hkn : k < n := by rw [HN.out]; exact lt_of_get hh
          have t1 : decide ((k : Int) < (n : Int)) = true := by simp; omega
          have t2 : decide (r < r) = false := by simp
          have t3 : (r == r) = true := by simp
          clear hh
          go_wp2
          refine bodyPost_ret (v := .tuple #[]) (by simp [results, Try.results149, go_sem]) rfl ⟨rfl, ?_, Agree.refl _ _⟩
          rw [HV.out, HI.out]; exact ⟨_, H.out⟩
        · have HI : Hid (insE r l = l.take k ++ [r] ++ l.drop k) := Lib.hid (by rw [insE_place, ← HP.out, if_neg hh]; simp)
          go_upto_region 1 with fail
          go_cut [15] from 4 to 17 (fun v15 wx => v15 = .bool false ∧ w = wx)
          case first =>
            by_cases hkn : k < n
            · obtain ⟨x, hxx⟩ := hs.idx hkn
              obtain ⟨b, off, rfl, _, hc, _⟩ := hs.rune hxx
              have hge : r ≤ x := placeE_ge (by rw [← HP.out]; exact hxx)
              have t1 : decide ((k : Int) < (n : Int)) = true := by simp; omega
              have t2 : decide (x < r) = false := by simp; omega
              clear hxx hh hge
              go_wp2_with fail
              go_meet
              exact ⟨rfl, rfl⟩
            · have t1 : decide ((k : Int) < (n : Int)) = false := by simp; omega
              go_wp2_with fail
              go_meet
              exact ⟨rfl, rfl⟩
          obtain ⟨rfl, rfl⟩ := hcut
          go_upto_region 3 with fail
          go_cut [33] from 18 to 33 (fun v33 wx => v33 = .bool false ∧ w = wx)
          case first =>
            by_cases hkn : k < n
            · obtain ⟨x, hxx⟩ := hs.idx hkn
              obtain ⟨b, off, rfl, _, hc, _⟩ := hs.rune hxx
              have hge : r ≤ x := placeE_ge (by rw [← HP.out]; exact hxx)
              have t1 : decide ((k : Int) < (n : Int)) = true := by simp; omega
              have t2 : decide (x < r) = false := by simp; omega
              have t3 : (x == r) = false := by
                simp only [beq_eq_false_iff_ne, ne_eq]
                intro hq; rw [hq] at hxx; exact hh hxx
              clear hxx hh hge
              go_wp2_with fail
              go_meet
              exact ⟨rfl, rfl⟩
            · have t1 : decide ((k : Int) < (n : Int)) = false := by simp; omega
              go_wp2_with fail
              go_meet
              exact ⟨rfl, rfl⟩
          obtain ⟨rfl, rfl⟩ := hcut
          clear hh
          have hs1 := fun W => run_cut_h T_rune A n c (k : Int) k rfl (by omega) W
          have hs2 := fun W => run_cut_l T_rune A n c (k : Int) k rfl (by omega) W
          have ea := ((Ext.refl w).alloc (.cells #[] 21)).drew
          have oa := (OwnR.empty rRune 21 1 w.heap.size w (Nat.le_refl _)).ext (keep_rune bot) (Ext.refl _).drew
          have eb := (((Ext.refl w).alloc (.cells #[] 21)).alloc (.cells #[.int .i32 r] 21)).drew
          have ob := (OwnR.empty rRune 21 1 w.heap.size w (Nat.le_refl _)).ext (keep_rune bot) (((Ext.refl _).alloc (.cells #[.int .i32 r] 21)).drew)
          have sb := (rune_new (w.alloc (.cells #[] 21)) r ⟨by omega, by omega⟩).ext (Ext.refl _).drew
          have ec := (((Ext.refl w).alloc (.cells #[.int .i32 r] 21)).alloc (.cells #[] 21)).drew
          have oc := (OwnR.empty rRune 21 1 w.heap.size (w.alloc (.cells #[.int .i32 r] 21)) (by simp)).ext (keep_rune bot) (Ext.refl _).drew
          have sc := (rune_new w r ⟨by omega, by omega⟩).ext (((Ext.refl _).alloc (.cells #[] 21)).drew)
          simp only [World.size_alloc] at oc sb
          have nb : (Value.slice (some ⟨w.heap.size, 0, none⟩) 0 0).ownBlock ≠ some (w.heap.size + 1) := by simp [Value.ownBlock]
          have nc : (Value.slice (some ⟨w.heap.size + 1, 0, none⟩) 0 0).ownBlock ≠ some w.heap.size := by simp [Value.ownBlock]
          go_wp2_with fail
          go_region_law (first
            | (refine step_app T_rune rfl (.tmp 34) (.tmp 37) rfl rfl oa rfl ((hs.ext ea).take (hi := k) (by omega)) (fun _ _ h => h) one_rune (keep_rune bot) (bot_no _) ?_ ?_ ea.size ?_
               · simp; omega
               · unfold maxLen; simp; omega
               intro v1 w1 o1 g1 hat1
               have e1 := ea.app g1 oa
               have z1 := e1.cell hcell
               have q1 := Nat.lt_of_lt_of_le hB e1.size
               have f1 := fun i => (e1.frozen (a := ⟨B, i, none⟩) hB).trans (hfz i)
               have s1 := rune_new w1 r ⟨by omega, by omega⟩
               have e1' := (Ext.refl w1).alloc (.cells #[.int .i32 r] 21)
               have o1' := o1.ext (keep_rune bot) e1')
            | (refine step_app T_rune rfl (.tmp 34) (.tmp 37) rfl rfl ob rfl ((hs.ext eb).take (hi := k) (by omega)) (fun _ _ h => h) one_rune (keep_rune bot) (bot_no _) ?_ ?_ eb.size ?_
               · simp; omega
               · unfold maxLen; simp; omega
               intro v1 w1 o1 g1 hat1
               have e1 := eb.app g1 ob
               have z1 := e1.cell hcell
               have q1 := Nat.lt_of_lt_of_le hB e1.size
               have f1 := fun i => (e1.frozen (a := ⟨B, i, none⟩) hB).trans (hfz i)
               have s1 := SlR.farB sb g1 nb)
            | (refine step_app T_rune rfl (.tmp 34) (.tmp 37) rfl rfl oc rfl ((hs.ext ec).take (hi := k) (by omega)) (fun _ _ h => h) one_rune (keep_rune bot) (bot_no _) ?_ ?_ ec.size ?_
               · simp; omega
               · unfold maxLen; simp; omega
               intro v1 w1 o1 g1 hat1
               have e1 := ec.app g1 oc
               have z1 := e1.cell hcell
               have q1 := Nat.lt_of_lt_of_le hB e1.size
               have f1 := fun i => (e1.frozen (a := ⟨B, i, none⟩) hB).trans (hfz i)
               have s1 := SlR.farB sc g1 nc)
            | (refine step_app T_rune rfl (.tmp 38) (.tmp 40) rfl rfl o1' rfl s1 (fun _ _ h => h) one_rune (keep_rune bot) (bot_no _) ?_ ?_ (e1.trans e1').size ?_
               · simp; omega
               · unfold maxLen; simp; omega
               intro v2 w2 o2 g2 hat2
               have e2 := (e1.trans e1').app g2 o1'
               have z2 := e2.cell hcell
               have f2 := fun i => (e2.frozen (a := ⟨B, i, none⟩) hB).trans (hfz i))
            | (refine step_app T_rune rfl (.tmp 38) (.tmp 40) rfl rfl o1 rfl s1 (fun _ _ h => h) one_rune (keep_rune bot) (bot_no _) ?_ ?_ e1.size ?_
               · simp; omega
               · unfold maxLen; simp; omega
               intro v2 w2 o2 g2 hat2
               have e2 := e1.app g2 o1
               have z2 := e2.cell hcell
               have f2 := fun i => (e2.frozen (a := ⟨B, i, none⟩) hB).trans (hfz i))
            | (refine step_app T_rune rfl (.tmp 41) (.tmp 44) rfl rfl o2 rfl ((hs.ext e2).drop (lo := k) (by omega)) (fun _ _ h => h) one_rune (keep_rune bot) (bot_no _) ?_ ?_ e2.size ?_
               · simp; omega
               · unfold maxLen; simp; omega
               intro v3 w3 o3 g3 hat3
               have e3 := e2.app g3 o2
               have z3 := e3.cell hcell
               have f3 := fun i => (e3.frozen (a := ⟨B, i, none⟩) hB).trans (hfz i)
               simp only [List.nil_append] at o3
               obtain ⟨A3, c3, rfl, hs3⟩ := o3.top
               generalize (l.take k ++ [r] ++ l.drop k).length = N3 at o3 hs3 ⊢
               have O3 := Lib.hid o3
               clear o3 hs3))
          all_goals
            go_wp2
            go_end0
            rw [HV.out, HI.out]
            exact ⟨rfl, ⟨_, H.out.put e3 O3.out⟩, ((e3.agree _).trans e3.size (setCell_agree _ _ _ _))⟩

end Go.Proofs.Ytfdkbhbnldcbmaa
