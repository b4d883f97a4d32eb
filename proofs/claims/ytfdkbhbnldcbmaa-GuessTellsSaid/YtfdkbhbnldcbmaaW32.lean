/- Walks: what is not in a set; what is in two. Walk: what is in two sets. -/
import Derived.Test.YtfdkbhbnldcbmaaW30
namespace Go.Proofs.Ytfdkbhbnldcbmaa
open Go.RowKit
set_option linter.unusedVariables false
set_option linter.unusedSimpArgs false

def notFrom : Int → List Sp → List Sp
  | a, [] => if a ≤ 1114111 then [⟨a, 1114111⟩] else []
  | a, x :: l => (if a < x.lo then [⟨a, x.lo - 1⟩] else []) ++ notFrom (x.hi + 1) l
def notL (l : List Sp) : List Sp := notFrom 0 l

theorem notFrom_spec : ∀ (l : List Sp) (a : Int), Canon l → 0 ≤ a → a ≤ 1114112 → (∀ x ∈ l, a ≤ x.lo) →
    Canon (notFrom a l) ∧ (∀ y ∈ notFrom a l, a ≤ y.lo) ∧ ∀ r, has (notFrom a l) r = (decide (a ≤ r ∧ r ≤ 1114111) && !has l r)
  | [], a, _, h0, h1, _ => by
    unfold notFrom
    by_cases h : a ≤ 1114111
    · rw [if_pos h]
      refine ⟨⟨fun x hx => by simp at hx; subst hx; exact ⟨h0, h, Int.le_refl _⟩, by simp⟩, fun y hy => by simp at hy; subst hy; exact Int.le_refl _, fun r => ?_⟩
      rw [has_cons, has_nil, Bool.or_false, Bool.not_false, Bool.and_true, Bool.eq_iff_iff, inSp_iff, decide_eq_true_eq]
    · rw [if_neg h]
      refine ⟨Canon.nil, fun y hy => by simp at hy, fun r => ?_⟩
      rw [has_nil, decide_eq_false (by omega)]; rfl
  | x :: l, a, hc, h0, h1, hx => by
    have hxr := hc.rng x (by simp)
    have hxa := hx x (by simp)
    obtain ⟨k1, k2, k3⟩ := notFrom_spec l (x.hi + 1) hc.tail (by omega) (by omega) (fun y hy => by have := (List.pairwise_cons.1 hc.pw).1 y hy; omega)
    have hbeh : ∀ r, has l r = true → x.hi + 1 < r := fun r hr => hc.behind hr
    unfold notFrom
    by_cases h : a < x.lo
    · rw [if_pos h]
      refine ⟨⟨fun y hy => ?_, ?_⟩, fun y hy => ?_, fun r => ?_⟩
      · rcases List.mem_append.1 hy with hy | hy
        · simp at hy; subst hy; exact ⟨h0, by simp only []; omega, by simp only []; omega⟩
        · exact k1.rng y hy
      · rw [List.singleton_append, List.pairwise_cons]
        exact ⟨fun y hy => by have := k2 y hy; simp only []; omega, k1.pw⟩
      · rcases List.mem_append.1 hy with hy | hy
        · simp at hy; subst hy; exact Int.le_refl _
        · have := k2 y hy; omega
      · rw [List.singleton_append, has_cons, k3, has_cons]
        rw [Bool.eq_iff_iff]
        simp only [Bool.or_eq_true, Bool.and_eq_true, Bool.not_eq_true', Bool.or_eq_false_iff, decide_eq_true_eq, inSp_iff]
        have hb : (has l r = false ∧ (x.hi + 1 < r ∨ r ≤ x.hi + 1)) ∨ (has l r = true ∧ x.hi + 1 < r) := by
          cases e : has l r
          · exact .inl ⟨rfl, by omega⟩
          · exact .inr ⟨rfl, hbeh r e⟩
        have hi : inSp x r = false ↔ ¬ (x.lo ≤ r ∧ r ≤ x.hi) := by rw [← inSp_iff]; simp
        rw [hi]
        rcases hb with ⟨e, _⟩ | ⟨e, e2⟩ <;> rw [e] <;> simp <;> omega
    · rw [if_neg h, List.nil_append]
      refine ⟨k1, fun y hy => by have := k2 y hy; omega, fun r => ?_⟩
      rw [k3, has_cons]
      rw [Bool.eq_iff_iff]
      simp only [Bool.and_eq_true, Bool.not_eq_true', Bool.or_eq_false_iff, decide_eq_true_eq]
      have hi : inSp x r = false ↔ ¬ (x.lo ≤ r ∧ r ≤ x.hi) := by rw [← inSp_iff]; simp
      rw [hi]
      have hb : has l r = false ∨ (has l r = true ∧ x.hi + 1 < r) := by
        cases e : has l r
        · exact .inl rfl
        · exact .inr ⟨rfl, hbeh r e⟩
      rcases hb with e | ⟨e, e2⟩ <;> rw [e] <;> simp <;> omega

theorem not_canon {l : List Sp} (h : Canon l) : Canon (notL l) := (notFrom_spec l 0 h (by omega) (by omega) (fun x hx => (h.rng x hx).1)).1
theorem not_has {l : List Sp} (h : Canon l) (r : Int) : has (notL l) r = (decide (0 ≤ r ∧ r ≤ 1114111) && !has l r) := (notFrom_spec l 0 h (by omega) (by omega) (fun x hx => (h.rng x hx).1)).2.2 r
theorem notFrom_len : ∀ (l : List Sp) (a : Int), (notFrom a l).length ≤ l.length + 1
  | [], a => by unfold notFrom; split <;> simp
  | x :: l, a => by
    unfold notFrom
    have := notFrom_len l (x.hi + 1)
    rw [List.length_append, List.length_cons]
    split
    · simp; omega
    · simp; omega

def meetL : List Sp → List Sp → List Sp
  | x :: a, y :: b => (if max x.lo y.lo ≤ min x.hi y.hi then [⟨max x.lo y.lo, min x.hi y.hi⟩] else []) ++ (if x.hi < y.hi then meetL a (y :: b) else meetL (x :: a) b)
  | [], _ => []
  | _ :: _, [] => []
termination_by a b => a.length + b.length
theorem meetL_cons (x y : Sp) (a b : List Sp) : meetL (x :: a) (y :: b) = (if max x.lo y.lo ≤ min x.hi y.hi then [⟨max x.lo y.lo, min x.hi y.hi⟩] else []) ++ (if x.hi < y.hi then meetL a (y :: b) else meetL (x :: a) b) := by rw [meetL]
theorem meetL_nil (b : List Sp) : meetL [] b = [] := by rw [meetL]
theorem meetL_nil' (a : List Sp) : meetL a [] = [] := by cases a <;> rw [meetL]

theorem meetL_within : ∀ (a b : List Sp) (z : Sp), z ∈ meetL a b → (∃ x ∈ a, x.lo ≤ z.lo ∧ z.hi ≤ x.hi) ∧ (∃ y ∈ b, y.lo ≤ z.lo ∧ z.hi ≤ y.hi) ∧ z.lo ≤ z.hi
  | [], b, z, h => by rw [meetL_nil] at h; simp at h
  | x :: a, [], z, h => by rw [meetL_nil'] at h; simp at h
  | x :: a, y :: b, z, h => by
    rw [meetL_cons] at h
    rcases List.mem_append.1 h with h | h
    · by_cases hm : max x.lo y.lo ≤ min x.hi y.hi
      · rw [if_pos hm] at h
        simp at h; subst h
        exact ⟨⟨x, by simp, by simp only []; omega, by simp only []; omega⟩, ⟨y, by simp, by simp only []; omega, by simp only []; omega⟩, hm⟩
      · rw [if_neg hm] at h; simp at h
    · by_cases hm : x.hi < y.hi
      · rw [if_pos hm] at h
        obtain ⟨⟨u, u1, u2⟩, h2, h3⟩ := meetL_within a (y :: b) z h
        exact ⟨⟨u, by simp [u1], u2⟩, h2, h3⟩
      · rw [if_neg hm] at h
        obtain ⟨h1, ⟨u, u1, u2⟩, h3⟩ := meetL_within (x :: a) b z h
        exact ⟨h1, ⟨u, by simp [u1], u2⟩, h3⟩
termination_by a b => a.length + b.length

theorem meetL_spec : ∀ (a b : List Sp), Canon a → Canon b → Canon (meetL a b) ∧ ∀ r, has (meetL a b) r = (has a r && has b r)
  | [], b, _, _ => by rw [meetL_nil]; exact ⟨Canon.nil, fun r => by simp [has_nil]⟩
  | x :: a, [], _, _ => by rw [meetL_nil']; exact ⟨Canon.nil, fun r => by simp [has_nil]⟩
  | x :: a, y :: b, ha, hb => by
    have hx := ha.rng x (by simp)
    have hy := hb.rng y (by simp)
    have hab : ∀ r, has a r = true → x.hi + 1 < r := fun r hr => ha.behind hr
    have hbb : ∀ r, has b r = true → y.hi + 1 < r := fun r hr => hb.behind hr
    have hax := (List.pairwise_cons.1 ha.pw).1
    have hby := (List.pairwise_cons.1 hb.pw).1
    have key : ∀ (rest : List Sp), Canon rest → (∀ z ∈ rest, min x.hi y.hi + 1 < z.lo) → Canon ((if max x.lo y.lo ≤ min x.hi y.hi then [(⟨max x.lo y.lo, min x.hi y.hi⟩ : Sp)] else []) ++ rest) := by
      intro rest hc hl
      by_cases hm : max x.lo y.lo ≤ min x.hi y.hi
      · rw [if_pos hm, List.singleton_append]
        exact ⟨fun z hz => by
          rcases List.mem_cons.1 hz with rfl | hz
          · simp only []; omega
          · exact hc.rng z hz, List.pairwise_cons.2 ⟨hl, hc.pw⟩⟩
      · rw [if_neg hm]; exact hc
    have hh : ∀ r, has (if max x.lo y.lo ≤ min x.hi y.hi then [(⟨max x.lo y.lo, min x.hi y.hi⟩ : Sp)] else []) r = (inSp x r && inSp y r) := by
      intro r
      rw [Bool.eq_iff_iff, Bool.and_eq_true, inSp_iff, inSp_iff]
      by_cases hm : max x.lo y.lo ≤ min x.hi y.hi
      · rw [if_pos hm, has_cons, has_nil, Bool.or_false, inSp_iff]; simp only []; omega
      · rw [if_neg hm, has_nil]; simp; omega
    have happ : ∀ (u v : List Sp) r, has (u ++ v) r = (has u r || has v r) := fun u v r => by unfold has; rw [List.any_append]
    rw [meetL_cons]
    by_cases hm : x.hi < y.hi
    · rw [if_pos hm]
      obtain ⟨k1, k2⟩ := meetL_spec a (y :: b) ha.tail hb
      refine ⟨key _ k1 fun z hz => ?_, fun r => ?_⟩
      · obtain ⟨⟨u, u1, u2, _⟩, _, _⟩ := meetL_within _ _ z hz
        have := hax u u1; omega
      · rw [happ, hh, k2, has_cons, has_cons]
        cases e1 : inSp x r <;> cases e2 : inSp y r <;> cases e3 : has a r <;> cases e4 : has b r <;> simp
        all_goals
          have f1 := hbb r e4
          have f2 := (inSp_iff.1 e1)
          omega
    · rw [if_neg hm]
      obtain ⟨k1, k2⟩ := meetL_spec (x :: a) b ha hb.tail
      refine ⟨key _ k1 fun z hz => ?_, fun r => ?_⟩
      · obtain ⟨_, ⟨u, u1, u2, _⟩, _⟩ := meetL_within _ _ z hz
        have := hby u u1; omega
      · rw [happ, hh, k2, has_cons, has_cons]
        cases e1 : inSp x r <;> cases e2 : inSp y r <;> cases e3 : has a r <;> cases e4 : has b r <;> simp
        all_goals
          have f1 := hab r e3
          have f2 := (inSp_iff.1 e2)
          omega
termination_by a b => a.length + b.length

theorem OwnR.ne_new {α : Type} {R : World → List Value → α → Prop} {e : TypeId} {sz base : Nat} {w : World} {v : Value} {l : List α} (h : OwnR R e sz base w v l) : v.ownBlock ≠ some w.heap.size := fun e => by have := (h.lt _ e).2; omega

set_option maxRecDepth 100000 in
set_option maxHeartbeats 1600000 in
theorem not_any (A : Option Addr) (n c : Nat) (l : List Sp) (w : World) (h : Spans w A n c l) (G : Good l) :
    Calls Try.prog 127 #[.slice A n c] w fun e w' => ∃ v, e = .returned v ∧ OwnR rSpan 80 2 w.heap.size w' v (notL l) ∧ Ext w w' := by
  have hlen := Lib.hid h.len
  have hcap := h.cap
  have hn : n ≤ 200 := by rw [← h.len]; exact G.len
  have HG := Lib.hid G.rng
  have HP := Lib.hid G.pw
  clear G
  go_enter Try.func127, Try.ntmps127
  go_wp2
  go_loopw [3, 4, 9] (fun v a i wr => ∃ (k : Nat) (at_ : Int) (out : List Sp), k ≤ n ∧ i = .int .i64 k ∧ a = .int .i32 at_ ∧ 0 ≤ at_ ∧ at_ ≤ 1114112 ∧ out.length ≤ k ∧ notL l = out ++ notFrom at_ (l.drop k) ∧ OwnR rSpan 80 2 w.heap.size wr v out ∧ Ext w wr) (fun _ _ i _ => n - (intOf i).toNat)
  case atStart => exact ⟨0, 0, [], by omega, rfl, rfl, by omega, by omega, by simp, rfl, OwnR.nil _ _ _ _ _, Ext.refl _⟩
  case round =>
    obtain ⟨k, at_, out, hk, rfl, rfl, ha0, ha1, hol, hkk, ow, hx⟩ := hrel
    have HK := Lib.hid hkk; clear hkk
    by_cases hlt : k < n
    · obtain ⟨x, hxx⟩ := h.idx hlt
      obtain ⟨b, off, rfl, ⟨_, hne⟩, c1, c2, xb1, xb2⟩ := (h.ext hx).span hxx
      obtain ⟨hx1, hx2, hx3⟩ := HG.out x (List.mem_of_getElem? hxx)
      have HD := Lib.hid (drop_cons hxx); clear hxx
      have X1 := Lib.hid (cell_new wr #[.int .i32 x.lo, .int .i32 x.hi] 80 1 (.int .i32 x.hi) rfl)
      have hov := ow.ne_new
      have ex := (Ext.refl wr).alloc (.cells #[.int .i32 x.lo, .int .i32 x.hi] 80)
      by_cases t : at_ < x.lo
      · have t' : decide (at_ < x.lo) = true := by simpa using t
        have HK2 : Hid (notL l = (out ++ [⟨at_, x.lo - 1⟩]) ++ notFrom (x.hi + 1) (l.drop (k + 1))) := Lib.hid (by rw [HK.out, HD.out, notFrom, if_pos t, List.append_assoc])
        have hx6 := (hx.trans ex).alloc (.cells #[.int .i32 at_, .int .i32 (x.lo - 1)] 80)
        have ow6 := ow.ext (keep_span bot) (ex.alloc (.cells #[.int .i32 at_, .int .i32 (x.lo - 1)] 80))
        have s6 := span_new (wr.alloc (.cells #[.int .i32 x.lo, .int .i32 x.hi] 80)) ⟨at_, x.lo - 1⟩ 80 (by unfold i32; simp only []; omega) (by unfold i32; simp only []; omega)
        rw [World.size_alloc] at s6
        go_wp2_with (at_builtin
                     refine wpList_appS T_span (by omega) rfl (.tmp 17) (.tmp 23) rfl rfl ow6 rfl s6 (fun _ _ h => h) one_span (keep_span bot) (bot_no _) ?_ hx6.size ?_
                     · omega
                     intro v7 w7 o7 g7 hat7
                     have g8 := hx6.app g7 ow6
                     have d7 := far_cell g7 (((Ext.refl _).alloc (.cells #[.int .i32 at_, .int .i32 (x.lo - 1)] 80)).cell X1.out) hov)
        go_roundw
        case rel => exact ⟨k + 1, x.hi + 1, out ++ [⟨at_, x.lo - 1⟩], by omega, by go_num, rfl, by omega, by omega, by simp; omega, HK2.out, o7, g8⟩
        case measure => simp [intOf]; omega
      · have t' : decide (at_ < x.lo) = false := by simpa using t
        have HK2 : Hid (notL l = out ++ notFrom (x.hi + 1) (l.drop (k + 1))) := Lib.hid (by rw [HK.out, HD.out, notFrom, if_neg t, List.nil_append])
        go_wp2
        go_roundw
        case rel => exact ⟨k + 1, x.hi + 1, out, by omega, by go_num, rfl, by omega, by omega, by omega, HK2.out, ow.ext (keep_span bot) ex, hx.trans ex⟩
        case measure => simp [intOf]; omega
    · have HK2 : Hid (notL l = out ++ notFrom at_ []) := Lib.hid (by rw [HK.out, drop_end hlen.out hlt])
      by_cases t : at_ ≤ 1114111
      · have t' : decide (at_ ≤ 1114111) = true := by simpa using t
        have HK3 : Hid (notL l = out ++ [⟨at_, 1114111⟩]) := Lib.hid (by rw [HK2.out, notFrom, if_pos t])
        have hx6 := hx.alloc (.cells #[.int .i32 at_, .int .i32 1114111] 80)
        have ow6 := ow.ext (keep_span bot) ((Ext.refl _).alloc (.cells #[.int .i32 at_, .int .i32 1114111] 80))
        have s6 := span_new wr ⟨at_, 1114111⟩ 80 (by unfold i32; simp only []; omega) (by unfold i32; simp only []; omega)
        go_wp2_with (at_builtin
                     refine wpList_appS T_span (by omega) rfl (.tmp 31) (.tmp 34) rfl rfl ow6 rfl s6 (fun _ _ h => h) one_span (keep_span bot) (bot_no _) ?_ hx6.size ?_
                     · omega
                     intro v7 w7 o7 g7 hat7
                     have g8 := hx6.app g7 ow6)
        go_ret
        exact ⟨_, rfl, by rw [HK3.out]; exact o7, g8⟩
      · have t' : decide (at_ ≤ 1114111) = false := by simpa using t
        have HK3 : Hid (notL l = out) := Lib.hid (by rw [HK2.out, notFrom, if_neg t, List.append_nil])
        go_wp2
        go_ret
        exact ⟨_, rfl, by rw [HK3.out]; exact ow, hx⟩

end Go.Proofs.Ytfdkbhbnldcbmaa

namespace Go.Proofs.Ytfdkbhbnldcbmaa
open Go.RowKit
set_option linter.unusedVariables false
set_option linter.unusedSimpArgs false

/-- a slice's length -/
def vlen : Value → Nat
  | .slice _ n _ => n
  | _ => 0

set_option maxRecDepth 100000 in
set_option maxHeartbeats 3200000 in
theorem meet_any (A : Option Addr) (n c : Nat) (a : List Sp) (B : Option Addr) (m d : Nat) (b : List Sp) (w : World) (hA : Spans w A n c a) (hB : Spans w B m d b) (ga : ∀ x ∈ a, okSp x) (gb : ∀ x ∈ b, okSp x) (hn : n ≤ 1000) (hm : m ≤ 1000) :
    Calls Try.prog 131 #[.slice A n c, .slice B m d] w fun e w' => ∃ v, e = .returned v ∧ OwnR rSpan 80 2 w.heap.size w' v (meetL a b) ∧ Ext w w' := by
  have HA := Lib.hid hA; have HB := Lib.hid hB; have GA := Lib.hid ga; have GB := Lib.hid gb
  clear hA hB ga gb
  go_enter Try.func131, Try.ntmps131
  go_wp2
  go_loopw [0, 1, 5] (fun u v o wr => ∃ (A' : Option Addr) (n' c' : Nat) (a' : List Sp) (B' : Option Addr) (m' d' : Nat) (b' : List Sp) (out : List Sp), u = .slice A' n' c' ∧ v = .slice B' m' d' ∧ Spans w A' n' c' a' ∧ Spans w B' m' d' b' ∧ Hid (∀ x ∈ a', okSp x) ∧ Hid (∀ x ∈ b', okSp x) ∧
      out.length + n' + m' ≤ 2000 ∧ Hid (meetL a b = out ++ meetL a' b') ∧ OwnR rSpan 80 2 w.heap.size wr o out ∧ Ext w wr) (fun u v _ _ => vlen u + vlen v)
  case atStart => exact ⟨A, n, c, a, B, m, d, b, [], rfl, rfl, HA.out, HB.out, GA.out, GB.out, by simp; omega, rfl, OwnR.nil _ _ _ _ _, Ext.refl _⟩
  case round =>
    obtain ⟨A', n', c', a', B', m', d', b', out, rfl, rfl, hA, hB, ga, gb, hbd, HK, ow, hx⟩ := hrel
    by_cases hn0 : 0 < n'
    · by_cases hm0 : 0 < m'
      · obtain ⟨x, hxx⟩ := hA.idx hn0
        obtain ⟨y, hyy⟩ := hB.idx hm0
        obtain ⟨b1, o1, rfl, ⟨_, hne1⟩, c1, c2, xb1, xb2⟩ := (hA.ext hx).span hxx
        obtain ⟨b2, o2, rfl, ⟨_, hne2⟩, d1, d2, yb1, yb2⟩ := (hB.ext hx).span hyy
        obtain ⟨hx1, hx2, hx3⟩ := ga.out x (List.mem_of_getElem? hxx)
        obtain ⟨hy1, hy2, hy3⟩ := gb.out y (List.mem_of_getElem? hyy)
        simp only [Nat.zero_mul, Nat.add_zero] at c1 c2 d1 d2
        have ea : a' = x :: a'.drop 1 := by have := drop_cons hxx; simpa using this
        have eb : b' = y :: b'.drop 1 := by have := drop_cons hyy; simpa using this
        have HK2 : Hid (meetL a b = out ++ ((if max x.lo y.lo ≤ min x.hi y.hi then [⟨max x.lo y.lo, min x.hi y.hi⟩] else []) ++ (if x.hi < y.hi then meetL (a'.drop 1) b' else meetL a' (b'.drop 1)))) := Lib.hid (by
          rw [HK.out]; congr 1
          conv => lhs; rw [ea, eb]
          rw [meetL_cons, ← ea, ← eb])
        obtain ⟨_, _, e1', _, k1, k2, _, _⟩ := hA.span hxx; cases e1'
        obtain ⟨_, _, e2', _, k3, k4, _, _⟩ := hB.span hyy; cases e2'
        simp only [Nat.zero_mul, Nat.add_zero] at k2 k4
        have K2 := Lib.hid k2; have K4 := Lib.hid k4
        clear ea eb hxx hyy k1 k2 k3 k4
        have hcA := hA.cap; have hcB := hB.cap
        have hs1 := fun W => run_cut_l T_span (some ⟨b1, o1, none⟩) n' c' 1 1 rfl (by omega) W
        have hs2 := fun W => run_cut_l T_span (some ⟨b2, o2, none⟩) m' d' 1 1 rfl (by omega) W
        have hA2 := hA.drop (lo := 1) (by omega)
        have hB2 := hB.drop (lo := 1) (by omega)
        have ga2 : Hid (∀ x ∈ a'.drop 1, okSp x) := Lib.hid fun x hx => ga.out x (List.mem_of_mem_drop hx)
        have gb2 : Hid (∀ x ∈ b'.drop 1, okSp x) := Lib.hid fun x hx => gb.out x (List.mem_of_mem_drop hx)
        go_wp2_with fail
        go_quiet (fail)
        generalize hlo : (if x.lo < y.lo then y.lo else x.lo) = lo
        generalize hhi : (if y.hi < x.hi then y.hi else x.hi) = hi
        have elo : max x.lo y.lo = lo := by rw [← hlo]; split <;> omega
        have ehi : min x.hi y.hi = hi := by rw [← hhi]; split <;> omega
        rw [elo, ehi] at HK2
        have blo : i32 lo := by unfold i32; omega
        have bhi : i32 hi := by unfold i32; omega
        clear hlo hhi elo ehi c1 c2 d1 d2
        generalize hw5 : wr.drewN _ = w5
        have e5 : Ext wr w5 := by rw [← hw5]; exact (Ext.refl _).drewN _
        clear hw5
        have ex5 := hx.trans e5
        have ow5 := ow.ext (keep_span bot) e5
        by_cases t1 : lo ≤ hi
        · have t1' : decide (lo ≤ hi) = true := by simpa using t1
          rw [if_pos t1] at HK2
          have hx6 := ex5.alloc (.cells #[.int .i32 lo, .int .i32 hi] 80)
          have ow6 := ow5.ext (keep_span bot) ((Ext.refl _).alloc (.cells #[.int .i32 lo, .int .i32 hi] 80))
          have s6 := span_new w5 ⟨lo, hi⟩ 80 blo bhi
          by_cases t2 : x.hi < y.hi
          · have t2' : decide (x.hi < y.hi) = true := by simpa using t2
            rw [if_pos t2] at HK2
            go_upto_region 6 with (first
              | (at_builtin
                 refine wpList_appS T_span (by omega) rfl (.tmp 37) (.tmp 41) rfl rfl ow6 rfl s6 (fun _ _ h => h) one_span (keep_span bot) (bot_no _) ?_ hx6.size ?_
                 · omega
                 intro v7 w7 o7 g7 hat7
                 have g8 := hx6.app g7 ow6
                 have c2 := g8.cell K2.out; have d2 := g8.cell K4.out))
            go_quiet (fail)
            go_wp2
            go_roundw
            case rel => exact ⟨_, n' - 1, c' - 1, a'.drop 1, _, m', d', b', out ++ [⟨lo, hi⟩], rfl, rfl, hA2, hB, ga2, gb, by simp; omega, Lib.hid (by rw [HK2.out, List.append_assoc]), o7.ext (keep_span bot) ((Ext.refl _).drewN _), g8.drewN _⟩
            case measure => simp [vlen]; omega
          · have t2' : decide (x.hi < y.hi) = false := by simpa using t2
            rw [if_neg t2] at HK2
            go_upto_region 6 with (first
              | (at_builtin
                 refine wpList_appS T_span (by omega) rfl (.tmp 37) (.tmp 41) rfl rfl ow6 rfl s6 (fun _ _ h => h) one_span (keep_span bot) (bot_no _) ?_ hx6.size ?_
                 · omega
                 intro v7 w7 o7 g7 hat7
                 have g8 := hx6.app g7 ow6
                 have c2 := g8.cell K2.out; have d2 := g8.cell K4.out))
            go_quiet (fail)
            go_wp2
            go_roundw
            case rel => exact ⟨_, n', c', a', _, m' - 1, d' - 1, b'.drop 1, out ++ [⟨lo, hi⟩], rfl, rfl, hA, hB2, ga, gb2, by simp; omega, Lib.hid (by rw [HK2.out, List.append_assoc]), o7.ext (keep_span bot) ((Ext.refl _).drewN _), g8.drewN _⟩
            case measure => simp [vlen]; omega
        · have t1' : decide (lo ≤ hi) = false := by simpa using t1
          rw [if_neg t1, List.nil_append] at HK2
          have c2 := ex5.cell K2.out; have d2 := ex5.cell K4.out
          by_cases t2 : x.hi < y.hi
          · have t2' : decide (x.hi < y.hi) = true := by simpa using t2
            rw [if_pos t2] at HK2
            go_upto_region 6 with fail
            go_quiet (fail)
            go_wp2
            go_roundw
            case rel => exact ⟨_, n' - 1, c' - 1, a'.drop 1, _, m', d', b', out, rfl, rfl, hA2, hB, ga2, gb, by omega, Lib.hid HK2.out, ow5.ext (keep_span bot) ((Ext.refl _).drewN _), ex5.drewN _⟩
            case measure => simp [vlen]; omega
          · have t2' : decide (x.hi < y.hi) = false := by simpa using t2
            rw [if_neg t2] at HK2
            go_upto_region 6 with fail
            go_quiet (fail)
            go_wp2
            go_roundw
            case rel => exact ⟨_, n', c', a', _, m' - 1, d' - 1, b'.drop 1, out, rfl, rfl, hA, hB2, ga, gb2, by omega, Lib.hid HK2.out, ow5.ext (keep_span bot) ((Ext.refl _).drewN _), ex5.drewN _⟩
            case measure => simp [vlen]; omega
      · have hb : b' = [] := List.eq_nil_of_length_eq_zero (by rw [hB.len]; omega)
        have HK2 : Hid (meetL a b = out) := Lib.hid (by rw [HK.out, hb, meetL_nil', List.append_nil])
        have t0 : m' = 0 := by omega
        subst t0
        go_wp2
        go_ret
        exact ⟨_, rfl, by rw [HK2.out]; exact ow, hx⟩
    · have ha : a' = [] := List.eq_nil_of_length_eq_zero (by rw [hA.len]; omega)
      have HK2 : Hid (meetL a b = out) := Lib.hid (by rw [HK.out, ha, meetL_nil, List.append_nil])
      have t0 : n' = 0 := by omega
      subst t0
      go_wp2
      go_ret
      exact ⟨_, rfl, by rw [HK2.out]; exact ow, hx⟩

end Go.Proofs.Ytfdkbhbnldcbmaa
