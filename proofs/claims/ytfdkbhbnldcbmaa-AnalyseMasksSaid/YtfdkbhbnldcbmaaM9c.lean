/- Walk of the law AnalyseMasks. -/
import Derived.Test.YtfdkbhbnldcbmaaW23
import Derived.Test.YtfdkbhbnldcbmaaW9
namespace Go.Proofs.Ytfdkbhbnldcbmaa
open Go.RowKit
set_option linter.unusedVariables false
set_option linter.unusedSimpArgs false

/-- who masks matches, too -/
theorem masks_matches {a b : Rule} {t : List Int} {x : Int} (oka : OkRule a) (hm : masksB a b = true) (he : matchesErr b t x = 0) (hb : matchesOk b t x = true) : matchesErr a t x = 0 ∧ matchesOk a t x = true := by
  have h1 : wrongText t = 0 ∧ ¬ (x < 0 ∨ (t.length : Int) < x) := by
    unfold matchesErr at he
    by_cases c1 : wrongRule b ≠ 0
    · rw [if_pos c1] at he; exact absurd he c1
    · rw [if_neg c1] at he
      by_cases c2 : wrongText t ≠ 0
      · rw [if_pos c2] at he; exact absurd he c2
      · rw [if_neg c2] at he
        by_cases c3 : x < 0 ∨ (t.length : Int) < x
        · rw [if_pos c3] at he; simp at he
        · exact ⟨by simpa using c2, c3⟩
  obtain ⟨h2, h3⟩ := h1
  have he' : matchesErr a t x = 0 := by
    unfold matchesErr
    rw [if_neg (by simp [wrong_of_ok oka]), if_neg (by simp [h2]), if_neg h3]
  refine ⟨he', ?_⟩
  unfold matchesOk at hb ⊢
  rw [he'] 
  simp only [Bool.and_eq_true, decide_true, true_and] at hb ⊢
  obtain ⟨k, rfl⟩ := Int.eq_ofNat_of_zero_le (by omega : 0 ≤ x)
  exact masks_here (by omega) hm hb.2

section
variable (A : Option Addr) (n c : Nat) (l : List Rule) (i j : Int) (X : Option Addr) (m d : Nat) (t : List Int) (x : Int) (w : World) (h : Rules w A n c l) (ht : Runes w X m d t)

/-- Masks tells no, or there is something wrong -/
theorem AnalyseMasks_no (r1 : Int) (r2 : Nat) (v : Bool) (hz : (r1 != 0) = true ∨ (r1 = 0 ∧ v = false))
    (hM : ∀ W, Ext w W → Calls Try.prog 40 #[.slice A n c, .int .i64 i, .int .i64 j] W fun e w' => e = .returned (.tuple #[.bool v, .agg #[.int .i64 r1, .int .i64 r2]]) ∧ Ext W w') :
    Calls Try.prog 6 #[.slice A n c, .int .i64 i, .int .i64 j, .slice X m d, .int .i64 x] w fun e w' => e = .returned (.bool true) ∧ Ext w w' := by
  have C1 := Lib.hid (alive9_any w)
  have C2 := Lib.hid hM
  clear hM
  rcases hz with hz | ⟨rfl, rfl⟩
  all_goals
    go_enter Try.func6, Try.ntmps6
    go_wp2_with (first
      | (go_at_call 38; refine C1.out.mono ?_; rintro e w1 ⟨rfl, x1⟩)
      | (go_at_call 40; refine (C2.out _ x1).mono ?_; rintro e w2 ⟨rfl, x2⟩; have e2 := (x1.trans x2)))
    go_ret
    exact ⟨rfl, e2.alloc _⟩

set_option maxRecDepth 100000 in
set_option maxHeartbeats 2000000 in
include h ht in
theorem AnalyseMasks_in (hr : (wrongRules l).1 = 0) (p q : Nat) (ei : i = p) (ej : j = q) (a b : Rule) (hp : l[p]? = some a) (hq : l[q]? = some b) (hm : masksB a b = true) :
    Calls Try.prog 6 #[.slice A n c, .int .i64 i, .int .i64 j, .slice X m d, .int .i64 x] w fun e w' => e = .returned (.bool true) ∧ Ext w w' := by
  subst ei ej
  have oka := (wrongRules_zero hr).2.2 a (List.mem_of_getElem? hp)
  have hcap := h.cap
  have hmx := h.max; unfold maxLen at hmx
  have hpn : p < n := by rw [← h.len]; exact lt_of_get hp
  have hqn : q < n := by rw [← h.len]; exact lt_of_get hq
  have C1 := Lib.hid (alive9_any w)
  have C2 := Lib.hid (fun W (e : Ext w W) => by have := Masks_in A n c l W (h.ext e) hr p q a b hp hq; rw [hm] at this; exact this)
  have C3 := Lib.hid (fun W (e : Ext w W) s f A1 n1 c1 A2 n2 c2 A3 n3 c3 A4 n4 c4 z (hv : RuleV W s f A1 n1 c1 A2 n2 c2 A3 n3 c3 A4 n4 c4 z b) => Matches_any s f A1 n1 c1 A2 n2 c2 A3 n3 c3 A4 n4 c4 z b W X m d t x (ht.ext e) hv)
  have C4 := Lib.hid (fun W (e : Ext w W) s f A1 n1 c1 A2 n2 c2 A3 n3 c3 A4 n4 c4 z (hv : RuleV W s f A1 n1 c1 A2 n2 c2 A3 n3 c3 A4 n4 c4 z a) => Matches_any s f A1 n1 c1 A2 n2 c2 A3 n3 c3 A4 n4 c4 z a W X m d t x (ht.ext e) hv)
  have RB := Lib.hid (fun W (e : Ext w W) => (h.ext e).rule hq)
  have RA := Lib.hid (fun W (e : Ext w W) => (h.ext e).rule hp)
  have HMM := Lib.hid (fun he hb => masks_matches (t := t) (x := x) oka hm he hb)
  obtain ⟨b1, o1, _, _, _, _, _, _, _, _, _, _, _, _, _, _, _, rfl, _⟩ := h.rule hp
  have t5 : (p : Int) < n := by omega
  have t6 : (q : Int) < n := by omega
  clear h ht hr hp hq hm oka
  generalize matchesErr b t x = eb at *
  generalize matchesOk b t x = vb at *
  by_cases he : eb = 0
  · subst he
    cases vb
    · go_enter Try.func6, Try.ntmps6
      go_wp2_with (first
        | (go_at_call 38; refine C1.out.mono ?_; rintro e w1 ⟨rfl, x1⟩)
        | (go_at_call 40; refine (C2.out _ x1).mono ?_; rintro e w2 ⟨rfl, x2⟩; have e2 := (x1.trans x2).alloc (.cells #[.int .i64 0, .int .i64 0] 38); obtain ⟨_, _, s, f, A1, n1, c1, A2, n2, c2, A3, n3, c3, A4, n4, c4, z, e1, ⟨hl1, _⟩, hv, k0, k1, k2, k3, k4, k5, k6⟩ := RB.out _ (x1.trans x2); cases e1; have hv2 := hv.ext (((Ext.refl w2).alloc (.cells #[.int .i64 0, .int .i64 0] 38)).agree top); clear hv)
        | (go_at_call 26; refine (C3.out _ e2 s f A1 n1 c1 A2 n2 c2 A3 n3 c3 A4 n4 c4 z hv2).mono ?_; rintro e w3 ⟨rfl, x3⟩; have e3 := e2.trans x3))
      go_ret
      exact ⟨rfl, e3⟩
    · obtain ⟨g1, g2⟩ := HMM.out rfl rfl
      have G1 := Lib.hid g1; have G2 := Lib.hid g2; clear g1 g2
      go_enter Try.func6, Try.ntmps6
      go_wp2_with (first
        | (go_at_call 38; refine C1.out.mono ?_; rintro e w1 ⟨rfl, x1⟩)
        | (go_at_call 40; refine (C2.out _ x1).mono ?_; rintro e w2 ⟨rfl, x2⟩; have e2 := (x1.trans x2).alloc (.cells #[.int .i64 0, .int .i64 0] 38); obtain ⟨_, _, s, f, A1, n1, c1, A2, n2, c2, A3, n3, c3, A4, n4, c4, z, e1, ⟨hl1, _⟩, hv, k0, k1, k2, k3, k4, k5, k6⟩ := RB.out _ (x1.trans x2); cases e1; have hv2 := hv.ext (((Ext.refl w2).alloc (.cells #[.int .i64 0, .int .i64 0] 38)).agree top); clear hv)
        | (go_at_call 26; ((with_reducible refine (C3.out _ e2 s f A1 n1 c1 A2 n2 c2 A3 n3 c3 A4 n4 c4 z hv2).mono ?_); rintro e w3 ⟨rfl, x3⟩; have e3 := e2.trans x3; obtain ⟨_, _, s', f', A1', n1', c1', A2', n2', c2', A3', n3', c3', A4', n4', c4', z', e1', ⟨hl1', _⟩, hv', k0', k1', k2', k3', k4', k5', k6'⟩ := RA.out _ e3; cases e1'))
        | (go_at_call 26; ((with_reducible refine (C4.out _ e3 s' f' A1' n1' c1' A2' n2' c2' A3' n3' c3' A4' n4' c4' z' hv').mono ?_); rintro e w4 ⟨rfl, x4⟩; rw [G1.out, G2.out]; have e4 := e3.trans x4)))
      go_ret
      exact ⟨rfl, e4⟩
  · have he' : (eb != 0) = true := by simpa using he
    clear he
    go_enter Try.func6, Try.ntmps6
    go_wp2_with (first
      | (go_at_call 38; refine C1.out.mono ?_; rintro e w1 ⟨rfl, x1⟩)
      | (go_at_call 40; refine (C2.out _ x1).mono ?_; rintro e w2 ⟨rfl, x2⟩; have e2 := (x1.trans x2).alloc (.cells #[.int .i64 0, .int .i64 0] 38); obtain ⟨_, _, s, f, A1, n1, c1, A2, n2, c2, A3, n3, c3, A4, n4, c4, z, e1, ⟨hl1, _⟩, hv, k0, k1, k2, k3, k4, k5, k6⟩ := RB.out _ (x1.trans x2); cases e1; have hv2 := hv.ext (((Ext.refl w2).alloc (.cells #[.int .i64 0, .int .i64 0] 38)).agree top); clear hv)
      | (go_at_call 26; refine (C3.out _ e2 s f A1 n1 c1 A2 n2 c2 A3 n3 c3 A4 n4 c4 z hv2).mono ?_; rintro e w3 ⟨rfl, x3⟩; have e3 := e2.trans x3))
    go_ret
    exact ⟨rfl, e3⟩

include h ht in
theorem AnalyseMasks_any : Calls Try.prog 6 #[.slice A n c, .int .i64 i, .int .i64 j, .slice X m d, .int .i64 x] w fun e w' => e = .returned (.bool true) ∧ Ext w w' := by
  by_cases hr : (wrongRules l).1 = 0
  · by_cases hf : i < 0 ∨ j < 0 ∨ (n : Int) ≤ i ∨ (n : Int) ≤ j
    · exact AnalyseMasks_no A n c i j X m d x w 3 0 false (.inl (by simp)) fun W e => Masks_far A n c l i j W (h.ext e) hr hf
    · obtain ⟨p, rfl⟩ := Int.eq_ofNat_of_zero_le (by omega : 0 ≤ i)
      obtain ⟨q, rfl⟩ := Int.eq_ofNat_of_zero_le (by omega : 0 ≤ j)
      obtain ⟨a, ha⟩ := h.idx (k := p) (by omega)
      obtain ⟨b, hb⟩ := h.idx (k := q) (by omega)
      cases hm : masksB a b
      · exact AnalyseMasks_no A n c p q X m d x w 0 0 false (.inr ⟨rfl, rfl⟩) fun W e => by have := Masks_in A n c l W (h.ext e) hr p q a b ha hb; rw [hm] at this; exact this
      · exact AnalyseMasks_in A n c l p q X m d t x w h ht hr p q rfl rfl a b ha hb hm
  · exact AnalyseMasks_no A n c i j X m d x w _ _ false (.inl (by simpa using hr)) fun W e => Masks_bad A n c l i j W (h.ext e) hr
end

end Go.Proofs.Ytfdkbhbnldcbmaa
