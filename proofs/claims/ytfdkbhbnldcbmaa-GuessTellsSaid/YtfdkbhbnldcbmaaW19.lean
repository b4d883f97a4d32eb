/- Walks: a list turned round; whether a rule masks another one. -/
import Derived.Test.YtfdkbhbnldcbmaaW18
import Derived.Test.YtfdkbhbnldcbmaaLibL
import Derived.RegionTactic
namespace Go.Proofs.Ytfdkbhbnldcbmaa
open Go.RowKit
set_option linter.unusedVariables false
set_option linter.unusedSimpArgs false

/-- place j of a list of n, of which k pairs have changed their places -/
def rho (n k j : Nat) : Nat := if j < k ∨ n - k ≤ j then n - 1 - j else j
/-- the cells of a list of which k pairs have changed their places -/
def RevAt (w : World) (g off n : Nat) (news : List Value) (k : Nat) : Prop := ∀ j u, j < n → news[rho n k j]? = some u → w.cell? ⟨g, off + j, none⟩ = some u

theorem RevAt.step {w : World} {g off n k : Nat} {news : List Value} {u1 u2 : Value} (h : RevAt w g off n news k) (hk : k < n - 1 - k) (h1 : news[k]? = some u1) (h2 : news[n - 1 - k]? = some u2) :
    RevAt ((w.setCell ⟨g, off + k, none⟩ u2).setCell ⟨g, off + (n - 1 - k), none⟩ u1) g off n news (k + 1) := by
  intro j u hj hu
  by_cases e1 : j = n - 1 - k
  · subst e1
    have : rho n (k + 1) (n - 1 - k) = k := by unfold rho; rw [if_pos (by omega)]; omega
    rw [this, h1] at hu
    cases hu
    have hc := h (n - 1 - k) u2 hj (by have : rho n k (n - 1 - k) = n - 1 - k := by unfold rho; rw [if_neg (by omega)]
                                       rw [this]; exact h2)
    by_cases e2 : off + (n - 1 - k) = off + k
    · omega
    · exact World.cell?_setCell_same' _ _ _ (by rw [World.cell?_setCell_other _ _ _ _ (by intro e; simp only [Addr.mk.injEq, and_true, true_and] at e; omega), hc]; rfl)
  · rw [World.cell?_setCell_other _ _ _ _ (by intro e; simp only [Addr.mk.injEq, and_true, true_and] at e; omega)]
    by_cases e2 : j = k
    · subst e2
      have : rho n (j + 1) j = n - 1 - j := by unfold rho; rw [if_pos (by omega)]
      rw [this, h2] at hu
      cases hu
      have hc := h j u1 hj (by have : rho n j j = j := by unfold rho; rw [if_neg (by omega)]
                               rw [this]; exact h1)
      exact World.cell?_setCell_same' _ _ _ (by rw [hc]; rfl)
    · rw [World.cell?_setCell_other _ _ _ _ (by intro e; simp only [Addr.mk.injEq, and_true, true_and] at e; omega)]
      refine h j u hj ?_
      have : rho n k j = rho n (k + 1) j := by
        unfold rho
        by_cases hz : j < k ∨ n - k ≤ j
        · rw [if_pos hz, if_pos (by omega)]
        · rw [if_neg hz, if_neg (by omega)]
      rw [this]; exact hu

theorem RevAt.all {w : World} {g off n k : Nat} {news : List Value} (h : RevAt w g off n news k) (hk : n ≤ 2 * k + 1) : ∀ j u, j < n → news[n - 1 - j]? = some u → w.cell? ⟨g, off + j, none⟩ = some u := by
  intro j u hj hu
  refine h j u hj ?_
  have : rho n k j = n - 1 - j := by
    unfold rho
    by_cases hz : j < k ∨ n - k ≤ j
    · rw [if_pos hz]
    · rw [if_neg hz]; omega
  rw [this]; exact hu

section
variable {α : Type} {R : World → List Value → α → Prop} {sz : Nat} {ok' : Nat → Prop}

set_option maxRecDepth 100000 in
set_option maxHeartbeats 1600000 in
theorem ReverseL_any {okk : Nat → Prop} (hk : Keep (rSl R sz ok') okk) {ok : Nat → Prop} (A : Option Addr) (n c : Nat) (l : List (List α)) (w a : World) (h : SlR (rSl R sz ok') 1 ok w A n c l) (hn : n ≤ 60000) (hA : ∀ g off, A = some ⟨g, off, none⟩ → ¬ okk g ∧ (∀ i, w.frozen? ⟨g, i, none⟩ = false) ∧ a.heap.size ≤ g) (ha : Ext a w) :
    Calls Try.prog 152 #[.slice A n c] w fun e w' => e = .returned (.tuple #[]) ∧ SlR (rSl R sz ok') 1 ok w' A n c l.reverse ∧ Ext a w' := by
  have hcap := h.cap
  by_cases hz : n = 0
  · have hl : l = [] := List.eq_nil_of_length_eq_zero (by rw [h.len]; exact hz)
    subst hl
    subst hz
    have H := Lib.hid h; clear h hA
    go_enter Try.func152, Try.ntmps152
    go_wp2
    go_loop [2, 3] (fun u v => u = .int .i64 0 ∧ v = .int .i64 (-1)) (fun _ _ => 0)
    case atStart => exact ⟨rfl, rfl⟩
    case round =>
      obtain ⟨rfl, rfl⟩ := hrel
      go_wp2
      go_end0
      exact ⟨rfl, H.out, ha⟩
  · obtain ⟨ad, news, rfl, hnl, hen, hcell⟩ := h.news (by omega)
    obtain ⟨x0, hx0⟩ := h.idx (k := 0) (by omega)
    obtain ⟨b, off, vs0, e0, hob, _⟩ := h.at_ 0 x0 hx0
    cases e0
    obtain ⟨g1, g2, g3⟩ := hA b off rfl
    rw [Nat.mul_one] at hnl
    have R0 : RevAt w b off n news 0 := fun j u hj hu => by
      have : rho n 0 j = j := by unfold rho; rw [if_neg (by omega)]
      rw [this] at hu
      have := hcell j u hu
      rwa [addr_add] at this
    have hform : ∀ j, j < n → ∃ A' n' c', news[j]? = some (.slice A' n' c') := fun j hj => by
      obtain ⟨y, hy⟩ := h.idx hj
      obtain ⟨vs, v1, ⟨A', n', c', rfl, _⟩, v3⟩ := hen.get j y hy
      exact ⟨A', n', c', by simpa using v3 0 _ rfl⟩
    have HN := Lib.hid hnl
    have HE := Lib.hid hen
    have H := Lib.hid h
    have HF := Lib.hid hform
    clear hcell hx0 hA hen h hform hnl
    go_enter Try.func152, Try.ntmps152
    go_wp2
    go_loopw [2, 3] (fun u v wr => ∃ k : Nat, 2 * k ≤ n ∧ u = .int .i64 k ∧ v = .int .i64 ((n : Int) - 1 - k) ∧ Hid (RevAt wr b off n news k) ∧ Hid (∀ i, wr.frozen? ⟨b, i, none⟩ = false) ∧ Agree (fun x => x ≠ b) w wr ∧ Ext a wr) (fun u _ _ => n - (intOf u).toNat)
    case atStart => exact ⟨0, by omega, rfl, by simp, R0, g2, Agree.refl _ _, ha⟩
    case round =>
      obtain ⟨k, hkn, rfl, rfl, hr, hf, hag, hx⟩ := hrel
      by_cases hlt : k < n - 1 - k
      · obtain ⟨A1, n1, c1, hu1⟩ := HF.out k (by omega)
        obtain ⟨A2, n2, c2, hu2⟩ := HF.out (n - 1 - k) (by omega)
        have z1 : wr.cell? ⟨b, off + k, none⟩ = some (.slice A1 n1 c1) := hr.out k _ (by omega) (by
          have : rho n k k = k := by unfold rho; rw [if_neg (by omega)]
          rw [this]; exact hu1)
        have z2 : wr.cell? ⟨b, off + (n - 1 - k), none⟩ = some (.slice A2 n2 c2) := hr.out (n - 1 - k) _ (by omega) (by
          have : rho n k (n - 1 - k) = n - 1 - k := by unfold rho; rw [if_neg (by omega)]
          rw [this]; exact hu2)
        have HS := Lib.hid (hr.out.step hlt hu1 hu2)
        have fz := hf.out
        clear hu1 hu2 g2
        have b1 : (0 : Int) ≤ (k : Int) := by omega
        have b2 : (0 : Int) ≤ (n : Int) - 1 - k := by omega
        have b3 : (n : Int) - 1 - k < n := by omega
        have b4 : (k : Int) < n := by omega
        have b5 : ((n : Int) - 1 - k).toNat = n - 1 - k := by omega
        have b6 : decide ((k : Int) < (n : Int) - 1 - k) = true := by simp; omega
        have b7 : (k : Int) ≤ (n : Int) - 1 := by omega
        have b8 : off + (n - 1 - k) ≠ off + k := by omega
        have b9 : off + k ≠ off + (n - 1 - k) := by omega
        go_wp2
        go_region
        go_wp2
        go_roundw
        case rel =>
          refine ⟨k + 1, by omega, by go_num, by congr 1; omega, (fun j u hj hu => HS.out j u hj hu), (fun i => ?_), fun x hx' hl => ?_, (ext_set (ext_set hx g3 _ _) g3 _ _).drew⟩
          · show World.frozen? ((wr.setCell _ _).setCell _ _) _ = _
            rw [World.frozen?_setCell, World.frozen?_setCell]; exact fz i
          · exact (Below.heap_setCell _ _ _ _ hx').trans ((Below.heap_setCell _ _ _ _ hx').trans (hag x hx' hl))
        case measure => simp [intOf]; omega
      · have b6 : decide ((k : Int) < (n : Int) - 1 - k) = false := by simp; omega
        go_wp2
        go_end0
        refine ⟨rfl, ⟨by simpa using H.out.len, H.out.cap, H.out.max, fun j x hj => ?_⟩, hx⟩
        have hjn : j < n := by have := lt_of_get hj; rw [List.length_reverse, H.out.len] at this; exact this
        rw [List.getElem?_reverse (by rw [H.out.len]; exact hjn), H.out.len] at hj
        obtain ⟨vs, v1, v2, v3⟩ := HE.out.get _ x hj
        refine ⟨b, off, vs, rfl, hob, v1, hk _ _ _ _ (hag.mono fun y hy e => g1 (e ▸ hy)) v2, fun i u hu => ?_⟩
        have h1 := v3 i u hu
        have hi : i = 0 := by have := lt_of_get hu; omega
        subst hi
        have := hr.out.all (by omega) j u hjn (by simpa using h1)
        simpa using this
end

theorem OwnR.free {α : Type} {R : World → List Value → α → Prop} {e : TypeId} {sz base : Nat} {w : World} {A : Option Addr} {n c : Nat} {l : List α} (h : OwnR R e sz base w (.slice A n c) l) {g off : Nat} (hA : A = some ⟨g, off, none⟩) :
    base ≤ g ∧ ∀ i, w.frozen? ⟨g, i, none⟩ = false := by
  subst hA
  obtain ⟨xs, ⟨_, ⟨hv, _⟩ | ⟨g', cap, cur, hv, hb, hh, _⟩⟩, _⟩ := h
  · cases hv
  · cases hv
    exact ⟨hb, fun i => frozen_of_row w _ i cur e hh⟩

set_option maxRecDepth 100000 in
set_option maxHeartbeats 800000 in
theorem turned_any (A : Option Addr) (n c : Nat) (l : List (List Sp)) (w : World) (h : Sets w A n c l) (hn : n ≤ 60000) :
    Calls Try.prog 140 #[.slice A n c] w fun e w' => (∃ A' c', e = .returned (.slice A' n c') ∧ Sets w' A' n c' l.reverse) ∧ Ext w w' := by
  have hl := Lib.hid h.len
  have HC := Lib.hid (Clone_set (one_sl _ _ _) (keep_setB w.heap.size) A n c l w (sets_lt h) (by omega) (fun g hg => by omega))
  have HR := Lib.hid (fun A' c' w' hs hA he => ReverseL_any (R := rSpan) (sz := 2) (keep_setB w.heap.size) (ok := fun b => w.heap.size ≤ b) A' n c' l w' w hs hn hA he)
  go_enter Try.func140, Try.ntmps140
  go_wp2_with (first
    | (go_at_call 151; refine HC.out.mono ?_; rintro e w1 ⟨v, rfl, ov, x1⟩; obtain ⟨A', c', rfl, s1⟩ := ov.sl; have hA := Lib.hid (fun g off (e : A' = some ⟨g, off, none⟩) => ov.free e); simp only [hl.out] at s1; rw [hl.out])
    | (go_at_call 152; refine (HR.out A' c' w1 s1 (fun g off e => ⟨fun hlt => absurd (hA.out g off e).1 (by omega), (hA.out g off e).2, (hA.out g off e).1⟩) x1).mono ?_; rintro e w2 ⟨rfl, s2, x2⟩))
  go_ret
  exact ⟨⟨A', c', rfl, sets_top s2⟩, x2⟩

/-- a rule in memory -/
def RuleHas (w : World) (b off : Nat) (r : Rule) : Prop :=
  ∃ s f A1 n1 c1 A2 n2 c2 A3 n3 c3 A4 n4 c4 q, RuleAt w b off s f A1 n1 c1 A2 n2 c2 A3 n3 c3 A4 n4 c4 q ∧ RuleV w s f A1 n1 c1 A2 n2 c2 A3 n3 c3 A4 n4 c4 q r
theorem RuleHas.ext {w w' : World} {b off : Nat} {r : Rule} (h : RuleHas w b off r) (e : Ext w w') : RuleHas w' b off r := by
  obtain ⟨s, f, A1, n1, c1, A2, n2, c2, A3, n3, c3, A4, n4, c4, q, h1, h2⟩ := h
  exact ⟨s, f, A1, n1, c1, A2, n2, c2, A3, n3, c3, A4, n4, c4, q, h1.ext e, h2.ext (e.agree top)⟩

theorem sets2_new {w' : World} (X Y : Option Addr) (nx cx ny cy : Nat) (x y : List (List Sp)) (t : TypeId) (B : Nat) (hx : SlR (rSl rSpan 2 (fun b => b < B)) 1 (fun b => b < B) w' X nx cx x) (hy : SlR (rSl rSpan 2 (fun b => b < B)) 1 (fun b => b < B) w' Y ny cy y) :
    SlR (rSl (rSl rSpan 2 (fun b => b < B)) 1 (fun b => b < B)) 1 top (w'.alloc (.cells #[.slice X nx cx, .slice Y ny cy] t)) (some ⟨w'.heap.size, 0, none⟩) 2 2 [x, y] := by
  have e := (Ext.refl w').alloc (.cells #[.slice X nx cx, .slice Y ny cy] t)
  refine SlR.fresh rfl (by unfold maxLen; omega) fun k u huu => ?_
  match k, huu with
  | 0, huu => cases huu; exact ⟨[.slice X nx cx], rfl, ⟨X, nx, cx, rfl, hx.ext (keep_setB B) e⟩, fun j v hv => by match j, hv with | 0, hv => simpa using hv⟩
  | 1, huu => cases huu; exact ⟨[.slice Y ny cy], rfl, ⟨Y, ny, cy, rfl, hy.ext (keep_setB B) e⟩, fun j v hv => by match j, hv with | 0, hv => simpa using hv⟩

theorem okSets_rev {l : List (List Sp)} (h : okSets l) : okSets l.reverse := fun s hs => h s (by simpa using hs)
theorem okSets_app {l m : List (List Sp)} (h : okSets l) (k : okSets m) : okSets (l ++ m) := fun s hs => (List.mem_append.1 hs).elim (h s) (k s)

set_option maxRecDepth 100000 in
set_option maxHeartbeats 4000000 in
theorem masks_any (B1 o1 B2 o2 : Nat) (a b : Rule) (w : World) (ha : RuleHas w B1 o1 a) (hb : RuleHas w B2 o2 b) (oka : OkRule a) (okb : OkRule b) :
    Calls Try.prog 94 #[.pointer (some ⟨B1, o1, none⟩), .pointer (some ⟨B2, o2, none⟩)] w fun e w' => e = .returned (.bool (masksB a b)) ∧ Ext w w' := by
  obtain ⟨s, f, A1, n1, c1, A2, n2, c2, A3, n3, c3, A4, n4, c4, q, hr, hv⟩ := ha
  obtain ⟨s', f', A1', n1', c1', A2', n2', c2', A3', n3', c3', A4', n4', c4', q', hr', hv'⟩ := hb
  have l1 := oka.lb; have l2 := oka.ls; have l3 := oka.la
  have l1' := okb.lb; have l2' := okb.ls; have l3' := okb.la
  rw [hv.before.len] at l1; rw [hv.source.len] at l2; rw [hv.after.len] at l3
  rw [hv'.before.len] at l1'; rw [hv'.source.len] at l2'; rw [hv'.after.len] at l3'
  have HM : Hid (masksB a b = (within b.before.reverse a.before.reverse && within (b.source ++ b.after) (a.source ++ a.after) && (!s || (s' && ((n1 : Int) == (n1' : Int)))) && (!f || (f' && ((n2 : Int) + n3 == (n2' : Int) + n3'))))) := Lib.hid (by
    unfold masksB
    rw [hv.start, hv'.start, hv.fin, hv'.fin, hv.before.len, hv'.before.len, hv.source.len, hv'.source.len, hv.after.len, hv'.after.len]
    have d1 : decide (n1 = n1') = ((n1 : Int) == (n1' : Int)) := by rw [Bool.eq_iff_iff, decide_eq_true_eq, beq_iff_eq]; omega
    have d2 : decide (n2 + n3 = n2' + n3') = ((n2 : Int) + n3 == (n2' : Int) + n3') := by rw [Bool.eq_iff_iff, decide_eq_true_eq, beq_iff_eq]; omega
    rw [d1, d2])
  have T1 := Lib.hid (fun W (e : Ext w W) => turned_any A1' n1' c1' b.before W (hv'.before.ext e) (by omega))
  have T2 := Lib.hid (fun W (e : Ext w W) => turned_any A1 n1 c1 a.before W (hv.before.ext e) (by omega))
  have V := Lib.hid hv; have V' := Lib.hid hv'
  clear hv hv'
  have R := Lib.hid hr; have R' := Lib.hid hr'
  have y2 := hr.h2; have y2' := hr'.h2
  clear hr hr'
  have e0 := (Ext.refl w).drew
  go_enter Try.func94, Try.ntmps94
  go_wp2_with fail
  go_region_held3 (fun w' => w'.cell? ⟨B1, o1 + 2, none⟩ = some (.slice A1 n1 c1) ∧ w'.cell? ⟨B2, o2 + 2, none⟩ = some (.slice A1' n1' c1'))
    (first | go_keep | exact ⟨p2, p2'⟩ | exact ⟨q2, q2'⟩ | exact ⟨z2, z2'⟩)
    (first
      | (go_at_call 140; ((with_reducible refine (T1.out _ e0).mono ?_); rintro e w1 ⟨⟨X1, d1, rfl, s1⟩, x1⟩; have e1 := e0.trans x1; have p2 := e1.cell y2; have p2' := e1.cell y2'))
      | (go_at_call 140; ((with_reducible refine (T2.out _ e1).mono ?_); rintro e w2 ⟨⟨X2, d2, rfl, s2⟩, x2⟩; have e2 := e1.trans x2; have q2 := e2.cell y2; have q2' := e2.cell y2'))
      | (go_at_call 139; ((with_reducible refine (within_any X1 n1' d1 _ X2 n1 d2 _ w2 (s1.ext x2) s2 (okSets_rev okb.b) (okSets_rev oka.b) (by omega) (by omega)).mono ?_); rintro e w3 ⟨rfl, x3⟩; have e3 := e2.trans x3; have z2 := e3.cell y2; have z2' := e3.cell y2')))
  clear p2 p2' q2 q2' z2 z2' y2 y2' e0 e1 e2 x1 x2 x3 s1 s2 T1 T2
  have R3 := Lib.hid (R.out.ext e3); have R3' := Lib.hid (R'.out.ext e3)
  have y3 := R3.out.h3; have y3' := R3'.out.h3; have y4 := R3.out.h4; have y4' := R3'.out.h4
  have kx := keepX_sl (sz := 1) (ok := fun b => b < w.heap.size) (keep_setB w.heap.size).x
  have zb := fun W (e : Ext w W) => sets2_new A2' A3' n2' c2' n3' c3' b.source b.after 22 w.heap.size (((sets_lt V'.out.source).ext (keep_setB _) e)) ((sets_lt V'.out.after).ext (keep_setB _) e)
  have za := fun W (e : Ext w W) => sets2_new A2 A3 n2 c2 n3 c3 a.source a.after 22 w.heap.size (((sets_lt V.out.source).ext (keep_setB _) e)) ((sets_lt V.out.after).ext (keep_setB _) e)
  have hb1 := (zb w3 e3).extX kx (Ext.refl _).drew
  have hb2 := (zb w3 e3).extX kx ((Ext.refl _).alloc (.cells #[.slice A2 n2 c2, .slice A3 n3 c3] 22)).drew
  have hb3 := (zb _ (e3.alloc (.cells #[.slice A2 n2 c2, .slice A3 n3 c3] 22))).extX kx (Ext.refl _).drew
  have ha2 := (za _ (e3.alloc (.cells #[.slice A2' n2' c2', .slice A3' n3' c3'] 22))).extX kx (Ext.refl _).drew
  have ha3 := (za w3 e3).extX kx ((Ext.refl _).alloc (.cells #[.slice A2' n2' c2', .slice A3' n3' c3'] 22)).drew
  rw [World.size_alloc] at hb3 ha2
  have lb : [b.source, b.after].flatten.length ≤ 60000 := by simp; rw [V'.out.source.len, V'.out.after.len]; omega
  have la : [a.source, a.after].flatten.length ≤ 60000 := by simp; rw [V.out.source.len, V.out.after.len]; omega
  have D1 := ((Ext.refl w3).alloc (.cells #[.slice A2' n2' c2', .slice A3' n3' c3'] 22)).drew
  have D2 := (((Ext.refl w3).alloc (.cells #[.slice A2' n2' c2', .slice A3' n3' c3'] 22)).alloc (.cells #[.slice A2 n2 c2, .slice A3 n3 c3] 22)).drew
  have D3 := (((Ext.refl w3).alloc (.cells #[.slice A2 n2 c2, .slice A3 n3 c3] 22)).alloc (.cells #[.slice A2' n2' c2', .slice A3' n3' c3'] 22)).drew
  have hw3 := e3.size
  have C1 := Lib.hid (Concat_set (one_sl _ _ _) (keep_setB w.heap.size) _ 2 2 _ _ hb1 lb (fun g hg => by simp at hg; omega))
  have C2 := Lib.hid (Concat_set (one_sl _ _ _) (keep_setB w.heap.size) _ 2 2 _ _ hb2 lb (fun g hg => by simp at hg; omega))
  have C3 := Lib.hid (Concat_set (one_sl _ _ _) (keep_setB w.heap.size) _ 2 2 _ _ hb3 lb (fun g hg => by simp at hg; omega))
  have G1 := Lib.hid (fun W (e : Ext w W) => Concat_set (one_sl _ _ _) (keep_setB w.heap.size) _ 2 2 _ _ (za W e) la (fun g hg => by have h1 := e.size; simp at h1 hg; omega))
  have G2 := Lib.hid (fun W e => Concat_set (one_sl _ _ _) (keep_setB w.heap.size) _ 2 2 _ W (ha2.extX kx e) la (fun g hg => by have h1 := e.size; simp at h1; omega))
  have G3 := Lib.hid (fun W e => Concat_set (one_sl _ _ _) (keep_setB w.heap.size) _ 2 2 _ W (ha3.extX kx e) la (fun g hg => by have h1 := e.size; simp at h1; omega))
  have hL1 : b.source.length + b.after.length ≤ 40 := by rw [V'.out.source.len, V'.out.after.len]; omega
  have hL2 : a.source.length + a.after.length ≤ 40 := by rw [V.out.source.len, V.out.after.len]; omega
  clear hb1 hb2 hb3 ha2 ha3 lb la kx za zb hw3
  go_wp2_with fail
  go_cut [6] from 20 to 40 (fun v6 wx => v6 = .bool (within (b.source ++ b.after) (a.source ++ a.after)) ∧ Ext w3 wx)
  case first =>
    go_region_held3 (fun w' => w'.cell? ⟨B1, o1 + 3, none⟩ = some (.slice A2 n2 c2) ∧ w'.cell? ⟨B1, o1 + 4, none⟩ = some (.slice A3 n3 c3) ∧ w'.cell? ⟨B2, o2 + 3, none⟩ = some (.slice A2' n2' c2') ∧ w'.cell? ⟨B2, o2 + 4, none⟩ = some (.slice A3' n3' c3'))
      (first | go_keep | exact ⟨p3, p4, p3', p4'⟩ | exact ⟨q3, q4, q3', q4'⟩ | exact ⟨z3, z4, z3', z4'⟩)
      (first
        | (go_at_call 141; ((with_reducible refine C1.out.mono ?_); rintro e w4 ⟨v4, rfl, o4, x4⟩; have f1 := D1.trans x4; have p3 := f1.cell y3; have p4 := f1.cell y4; have p3' := f1.cell y3'; have p4' := f1.cell y4'; have g1 := e3.trans f1; obtain ⟨X1, d1, rfl, s1⟩ := o4.top; simp only [List.flatten_cons, List.flatten_nil, List.append_nil, List.length_append] at s1))
        | (go_at_call 141; ((with_reducible refine C2.out.mono ?_); rintro e w4 ⟨v4, rfl, o4, x4⟩; have f1 := D2.trans x4; have p3 := f1.cell y3; have p4 := f1.cell y4; have p3' := f1.cell y3'; have p4' := f1.cell y4'; have g1 := e3.trans f1; obtain ⟨X1, d1, rfl, s1⟩ := o4.top; simp only [List.flatten_cons, List.flatten_nil, List.append_nil, List.length_append] at s1))
        | (go_at_call 141; ((with_reducible refine C3.out.mono ?_); rintro e w4 ⟨v4, rfl, o4, x4⟩; have f1 := D3.trans x4; have p3 := f1.cell y3; have p4 := f1.cell y4; have p3' := f1.cell y3'; have p4' := f1.cell y4'; have g1 := e3.trans f1; obtain ⟨X1, d1, rfl, s1⟩ := o4.top; simp only [List.flatten_cons, List.flatten_nil, List.append_nil, List.length_append] at s1))
        | (go_at_call 141; ((with_reducible refine (G1.out _ g1).mono ?_); rintro e w5 ⟨v5, rfl, o5, x5⟩; have x5a : Ext w4 w5 := ((Ext.refl w4).alloc (.cells #[.slice A2 n2 c2, .slice A3 n3 c3] 22)).trans x5; have f2 := f1.trans x5a; have q3 := f2.cell y3; have q4 := f2.cell y4; have q3' := f2.cell y3'; have q4' := f2.cell y4'; have g2 := g1.trans x5a; obtain ⟨X2, d2, rfl, s2⟩ := o5.top; simp only [List.flatten_cons, List.flatten_nil, List.append_nil, List.length_append] at s2))
        | (go_at_call 141; ((with_reducible refine (G2.out _ x4).mono ?_); rintro e w5 ⟨v5, rfl, o5, x5⟩; have x5a : Ext w4 w5 := x5; have f2 := f1.trans x5a; have q3 := f2.cell y3; have q4 := f2.cell y4; have q3' := f2.cell y3'; have q4' := f2.cell y4'; have g2 := g1.trans x5a; obtain ⟨X2, d2, rfl, s2⟩ := o5.top; simp only [List.flatten_cons, List.flatten_nil, List.append_nil, List.length_append] at s2))
        | (go_at_call 141; ((with_reducible refine (G3.out _ x4).mono ?_); rintro e w5 ⟨v5, rfl, o5, x5⟩; have x5a : Ext w4 w5 := x5; have f2 := f1.trans x5a; have q3 := f2.cell y3; have q4 := f2.cell y4; have q3' := f2.cell y3'; have q4' := f2.cell y4'; have g2 := g1.trans x5a; obtain ⟨X2, d2, rfl, s2⟩ := o5.top; simp only [List.flatten_cons, List.flatten_nil, List.append_nil, List.length_append] at s2))
        | (go_at_call 139; ((with_reducible refine (within_any X1 _ d1 _ X2 _ d2 _ w5 ((sets_top s1).ext x5a) (sets_top s2) (okSets_app okb.s okb.a) (okSets_app oka.s oka.a) hL1 hL2).mono ?_); rintro e w6 ⟨rfl, x6⟩; have f3 := f2.trans x6; have z3 := f3.cell y3; have z4 := f3.cell y4; have z3' := f3.cell y3'; have z4' := f3.cell y4'; have g3 := g2.trans x6)))
    all_goals (go_wp2_with fail; go_meet; exact ⟨rfl, f3⟩)
  case rest =>
    obtain ⟨rfl, hcx⟩ := hcut
    have g3 := e3.trans hcx
    clear C1 C2 C3 G1 G2 G3 D1 D2 D3 y3 y3' y4 y4' R3 R3' hcx e3
    generalize within b.before.reverse a.before.reverse = x1 at *
    generalize within (b.source ++ b.after) (a.source ++ a.after) = x2 at *
    obtain ⟨r0, r1, r2, r3, r4, _, _⟩ := R.out.ext g3
    obtain ⟨r0', r1', r2', r3', r4', _, _⟩ := R'.out.ext g3
    clear V V' R R' oka okb
    have hw1 : IntKind.i64.wrap ((n2 : Int) + n3) = (n2 : Int) + n3 := IntWalk.i64_in _ (by omega)
    have hw2 : IntKind.i64.wrap ((n2' : Int) + n3') = (n2' : Int) + n3' := IntWalk.i64_in _ (by omega)
    have hS : s = false ∨ (s = true ∧ s' = false) ∨ (s = true ∧ s' = true ∧ ((n1 : Int) == (n1' : Int)) = true) ∨ (s = true ∧ s' = true ∧ ((n1 : Int) == (n1' : Int)) = false) := by
      cases s <;> cases s' <;> simp [← Bool.not_eq_true, Classical.em]
    have hF : f = false ∨ (f = true ∧ f' = false) ∨ (f = true ∧ f' = true ∧ ((n2 : Int) + n3 == (n2' : Int) + n3') = true) ∨ (f = true ∧ f' = true ∧ ((n2 : Int) + n3 == (n2' : Int) + n3') = false) := by
      cases f <;> cases f' <;> simp [← Bool.not_eq_true, Classical.em]
    rcases hS with rfl | ⟨rfl, rfl⟩ | ⟨rfl, rfl, t1⟩ | ⟨rfl, rfl, t1⟩ <;> rcases hF with rfl | ⟨rfl, rfl⟩ | ⟨rfl, rfl, t2⟩ | ⟨rfl, rfl, t2⟩
    all_goals
      go_wp2_with fail
      go_quiet (fail)
      go_wp2_with fail
      go_quiet (fail)
      clear hw1 hw2
      cases x1 <;> cases x2
      all_goals
        go_wp2
        go_ret
        rw [HM.out]
        exact ⟨by simp [*], g3.drewN _⟩


end Go.Proofs.Ytfdkbhbnldcbmaa
