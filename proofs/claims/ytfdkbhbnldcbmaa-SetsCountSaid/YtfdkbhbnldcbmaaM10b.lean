/- The law SetsAlgebra: plain facts of sets, and the walk's last step. -/
import Derived.Test.YtfdkbhbnldcbmaaM10a
namespace Go.Proofs.Ytfdkbhbnldcbmaa
open Go.RowKit
set_option linter.unusedVariables false
set_option linter.unusedSimpArgs false

theorem mergedL_len (l : List Sp) : (mergedL l).length ≤ l.length := by
  rw [← mergeAll_nil]; have := mergeAll_len l []; simpa using this
theorem ofS_len (l : List Sp) : (ofS l).length ≤ l.length := by
  unfold ofS; exact Nat.le_trans (mergedL_len _) (by simp)
theorem notL_len (l : List Sp) : (notL l).length ≤ l.length + 1 := notFrom_len l 0
theorem or_spec {a b : List Sp} (ha : Canon a) (hb : Canon b) : Canon (ofS (a ++ b)) ∧ ∀ r, has (ofS (a ++ b)) r = (has a r || has b r) := by
  have := ofS_set (l := a ++ b) (fun x hx => (List.mem_append.1 hx).elim (ha.rng x) (hb.rng x))
  exact ⟨this.1, fun r => by rw [this.2 r]; unfold has; rw [List.any_append]⟩
theorem has_dom {a : List Sp} (ha : Canon a) {r : Int} (h : has a r = true) : 0 ≤ r ∧ r ≤ 1114111 := by
  unfold has at h
  obtain ⟨x, hx, hr⟩ := List.any_eq_true.1 h
  have := ha.rng x hx
  rw [inSp_iff] at hr
  omega
/-- a right set of so many spans at most -/
structure SetN (n : Nat) (l : List Sp) : Prop where
  canon : Canon l
  len : l.length ≤ n
theorem SetN.good {n : Nat} {l : List Sp} (h : SetN n l) (hn : n ≤ 200) : Good l := h.canon.good (Nat.le_trans h.len hn)
theorem SetN.not {n : Nat} {l : List Sp} (h : SetN n l) : SetN (n + 1) (notL l) := ⟨not_canon h.canon, by have := notL_len l; have := h.len; omega⟩
theorem SetN.or {n m : Nat} {a b : List Sp} (h : SetN n a) (k : SetN m b) : SetN (n + m) (ofS (a ++ b)) := ⟨(or_spec h.canon k.canon).1, by have h1 := ofS_len (a ++ b); have := h.len; have := k.len; rw [List.length_append] at h1; omega⟩
theorem SetN.and {n m : Nat} {a b : List Sp} (h : SetN n a) (k : SetN m b) : SetN (n + m) (meetL a b) := ⟨(meetL_spec a b h.canon k.canon).1, by have := meetL_len a b; have := h.len; have := k.len; omega⟩
theorem op1_not {n : Nat} {a r : List Sp} (h : SetN n a) (hn : n ≤ 199) (e : notL a = r) : Op1 71 a r := by
  subst e
  exact Lib.hid (fun W A c hs => notC_any A a.length c a W hs (h.good (by omega)) (by have := h.not.len; omega))
theorem op2_or {n m : Nat} {a b r : List Sp} (h : SetN n a) (k : SetN m b) (hn : n + m ≤ 200) (e : ofS (a ++ b) = r) : Op2 72 a b r := by
  subst e
  exact Lib.hid (fun W A c B d hs ht => orC_any A a.length c a B b.length d b W hs ht (h.good (by omega)) (k.good (by omega)) (by have := (h.or k).len; omega))
theorem op2_and {n m : Nat} {a b r : List Sp} (h : SetN n a) (k : SetN m b) (hn : n + m ≤ 200) (e : meetL a b = r) : Op2 73 a b r := by
  subst e
  exact Lib.hid (fun W A c B d hs ht => andC_any A a.length c a B b.length d b W hs ht (h.good (by omega)) (k.good (by omega)) (by have := (h.and k).len; omega))
theorem small_three {a b c : List Sp} (h : smallB [a, b, c] = true) : SetN 50 a ∧ SetN 50 b ∧ SetN 50 c := by
  obtain ⟨h1, h⟩ := smallB_cons h
  obtain ⟨h2, h⟩ := smallB_cons h
  obtain ⟨h3, _⟩ := smallB_cons h
  exact ⟨⟨h1.good.canon, h1.len⟩, ⟨h2.good.canon, h2.len⟩, ⟨h3.good.canon, h3.len⟩⟩
theorem or_has {a b : List Sp} (ha : Canon a) (hb : Canon b) (r : Int) : has (ofS (a ++ b)) r = (has a r || has b r) := (or_spec ha hb).2 r
theorem and_has {a b : List Sp} (ha : Canon a) (hb : Canon b) (r : Int) : has (meetL a b) r = (has a r && has b r) := (meetL_spec a b ha hb).2 r

set_option maxRecDepth 100000 in
set_option maxHeartbeats 4000000 in
theorem SetsAlgebra_any (Pa : Option Addr) (na qa : Nat) (a : List Sp) (Pb : Option Addr) (nb qb : Nat) (b : List Sp) (Pc : Option Addr) (nc qc : Nat) (c : List Sp) (w : World)
    (ha : Spans w Pa na qa a) (hb : Spans w Pb nb qb b) (hc : Spans w Pc nc qc c) :
    Calls Try.prog 17 #[.slice Pa na qa, .slice Pb nb qb, .slice Pc nc qc] w fun e w' => e = .returned (.bool true) ∧ Ext w w' := by
  obtain rfl := ha.len; obtain rfl := hb.len; obtain rfl := hc.len
  by_cases hs : smallB [a, b, c] = true
  · obtain ⟨ka, kb, kc⟩ := small_three hs
    have kna := ka.not; have knb := kb.not
    have koab := ka.or kb; have kobc := kb.or kc; have koac := ka.or kc
    have knab := ka.and kb; have knbc := kb.and kc; have knac := ka.and kc
    have kz : SetN 0 [] := ⟨Canon.nil, by simp⟩
    have ky1 := koab.or kc; have ky2 := knab.and kc; have ky3 := ka.and kobc; have ky4 := ka.or knbc; have ky5 := koab.not; have ky6 := ka.and knb
    have ca := ka.canon; have cb := kb.canon; have cc := kc.canon
    have cna := kna.canon; have cnb := knb.canon; have coab := koab.canon; have cobc := kobc.canon; have coac := koac.canon; have cnab := knab.canon; have cnbc := knbc.canon; have cnac := knac.canon
    have E_H_o_b_a : ofS ((b) ++ (a)) = ofS (a ++ b) := canon_eq ((kb).or ka).canon koab.canon (fun r => by
      have := fun h => has_dom ca (r := r) h
      by_cases hd : 0 ≤ r ∧ r ≤ 1114111
      · simp only [or_has, and_has, not_has, has_nil, ca, cb, cc, cna, cnb, coab, cobc, coac, cnab, cnbc, cnac]
        all_goals try simp only [hd, and_self, decide_true, Bool.true_and]
        all_goals (cases has a r <;> cases has b r <;> cases has c r <;> rfl)
      · have hf : has a r = false := by cases hh : has a r with | false => rfl | true => exact absurd (this hh) hd
        simp only [or_has, and_has, not_has, has_nil, ca, cb, cc, cna, cnb, coab, cobc, coac, cnab, cnbc, cnac]
        all_goals try simp only [hd, hf, decide_false, Bool.false_and]
        all_goals (cases has b r <;> cases has c r <;> rfl))
    have E_H_a_b_a : meetL (b) (a) = meetL a b := canon_eq ((kb).and ka).canon knab.canon (fun r => by
      have := fun h => has_dom ca (r := r) h
      by_cases hd : 0 ≤ r ∧ r ≤ 1114111
      · simp only [or_has, and_has, not_has, has_nil, ca, cb, cc, cna, cnb, coab, cobc, coac, cnab, cnbc, cnac]
        all_goals try simp only [hd, and_self, decide_true, Bool.true_and]
        all_goals (cases has a r <;> cases has b r <;> cases has c r <;> rfl)
      · have hf : has a r = false := by cases hh : has a r with | false => rfl | true => exact absurd (this hh) hd
        simp only [or_has, and_has, not_has, has_nil, ca, cb, cc, cna, cnb, coab, cobc, coac, cnab, cnbc, cnac]
        all_goals try simp only [hd, hf, decide_false, Bool.false_and]
        all_goals (cases has b r <;> cases has c r <;> rfl))
    have E_H_o_oab_c : ofS ((ofS (a ++ b)) ++ (c)) = ofS (ofS (a ++ b) ++ c) := canon_eq ((koab).or kc).canon ky1.canon (fun r => by
      have := fun h => has_dom ca (r := r) h
      by_cases hd : 0 ≤ r ∧ r ≤ 1114111
      · simp only [or_has, and_has, not_has, has_nil, ca, cb, cc, cna, cnb, coab, cobc, coac, cnab, cnbc, cnac]
        all_goals try simp only [hd, and_self, decide_true, Bool.true_and]
        all_goals (cases has a r <;> cases has b r <;> cases has c r <;> rfl)
      · have hf : has a r = false := by cases hh : has a r with | false => rfl | true => exact absurd (this hh) hd
        simp only [or_has, and_has, not_has, has_nil, ca, cb, cc, cna, cnb, coab, cobc, coac, cnab, cnbc, cnac]
        all_goals try simp only [hd, hf, decide_false, Bool.false_and]
        all_goals (cases has b r <;> cases has c r <;> rfl))
    have E_H_o_a_obc : ofS ((a) ++ (ofS (b ++ c))) = ofS (ofS (a ++ b) ++ c) := canon_eq ((ka).or kobc).canon ky1.canon (fun r => by
      have := fun h => has_dom ca (r := r) h
      by_cases hd : 0 ≤ r ∧ r ≤ 1114111
      · simp only [or_has, and_has, not_has, has_nil, ca, cb, cc, cna, cnb, coab, cobc, coac, cnab, cnbc, cnac]
        all_goals try simp only [hd, and_self, decide_true, Bool.true_and]
        all_goals (cases has a r <;> cases has b r <;> cases has c r <;> rfl)
      · have hf : has a r = false := by cases hh : has a r with | false => rfl | true => exact absurd (this hh) hd
        simp only [or_has, and_has, not_has, has_nil, ca, cb, cc, cna, cnb, coab, cobc, coac, cnab, cnbc, cnac]
        all_goals try simp only [hd, hf, decide_false, Bool.false_and]
        all_goals (cases has b r <;> cases has c r <;> rfl))
    have E_H_a_a_nbc : meetL (a) (meetL b c) = meetL (meetL a b) c := canon_eq ((ka).and knbc).canon ky2.canon (fun r => by
      have := fun h => has_dom ca (r := r) h
      by_cases hd : 0 ≤ r ∧ r ≤ 1114111
      · simp only [or_has, and_has, not_has, has_nil, ca, cb, cc, cna, cnb, coab, cobc, coac, cnab, cnbc, cnac]
        all_goals try simp only [hd, and_self, decide_true, Bool.true_and]
        all_goals (cases has a r <;> cases has b r <;> cases has c r <;> rfl)
      · have hf : has a r = false := by cases hh : has a r with | false => rfl | true => exact absurd (this hh) hd
        simp only [or_has, and_has, not_has, has_nil, ca, cb, cc, cna, cnb, coab, cobc, coac, cnab, cnbc, cnac]
        all_goals try simp only [hd, hf, decide_false, Bool.false_and]
        all_goals (cases has b r <;> cases has c r <;> rfl))
    have E_H_o_nab_nac : ofS ((meetL a b) ++ (meetL a c)) = meetL a (ofS (b ++ c)) := canon_eq ((knab).or knac).canon ky3.canon (fun r => by
      have := fun h => has_dom ca (r := r) h
      by_cases hd : 0 ≤ r ∧ r ≤ 1114111
      · simp only [or_has, and_has, not_has, has_nil, ca, cb, cc, cna, cnb, coab, cobc, coac, cnab, cnbc, cnac]
        all_goals try simp only [hd, and_self, decide_true, Bool.true_and]
        all_goals (cases has a r <;> cases has b r <;> cases has c r <;> rfl)
      · have hf : has a r = false := by cases hh : has a r with | false => rfl | true => exact absurd (this hh) hd
        simp only [or_has, and_has, not_has, has_nil, ca, cb, cc, cna, cnb, coab, cobc, coac, cnab, cnbc, cnac]
        all_goals try simp only [hd, hf, decide_false, Bool.false_and]
        all_goals (cases has b r <;> cases has c r <;> rfl))
    have E_H_o_a_nbc : ofS ((a) ++ (meetL b c)) = ofS (a ++ meetL b c) := canon_eq ((ka).or knbc).canon ky4.canon (fun r => by
      have := fun h => has_dom ca (r := r) h
      by_cases hd : 0 ≤ r ∧ r ≤ 1114111
      · simp only [or_has, and_has, not_has, has_nil, ca, cb, cc, cna, cnb, coab, cobc, coac, cnab, cnbc, cnac]
        all_goals try simp only [hd, and_self, decide_true, Bool.true_and]
        all_goals (cases has a r <;> cases has b r <;> cases has c r <;> rfl)
      · have hf : has a r = false := by cases hh : has a r with | false => rfl | true => exact absurd (this hh) hd
        simp only [or_has, and_has, not_has, has_nil, ca, cb, cc, cna, cnb, coab, cobc, coac, cnab, cnbc, cnac]
        all_goals try simp only [hd, hf, decide_false, Bool.false_and]
        all_goals (cases has b r <;> cases has c r <;> rfl))
    have E_H_a_oab_oac : meetL (ofS (a ++ b)) (ofS (a ++ c)) = ofS (a ++ meetL b c) := canon_eq ((koab).and koac).canon ky4.canon (fun r => by
      have := fun h => has_dom ca (r := r) h
      by_cases hd : 0 ≤ r ∧ r ≤ 1114111
      · simp only [or_has, and_has, not_has, has_nil, ca, cb, cc, cna, cnb, coab, cobc, coac, cnab, cnbc, cnac]
        all_goals try simp only [hd, and_self, decide_true, Bool.true_and]
        all_goals (cases has a r <;> cases has b r <;> cases has c r <;> rfl)
      · have hf : has a r = false := by cases hh : has a r with | false => rfl | true => exact absurd (this hh) hd
        simp only [or_has, and_has, not_has, has_nil, ca, cb, cc, cna, cnb, coab, cobc, coac, cnab, cnbc, cnac]
        all_goals try simp only [hd, hf, decide_false, Bool.false_and]
        all_goals (cases has b r <;> cases has c r <;> rfl))
    have E_H_a_na_nb : meetL (notL a) (notL b) = notL (ofS (a ++ b)) := canon_eq ((kna).and knb).canon ky5.canon (fun r => by
      have := fun h => has_dom ca (r := r) h
      by_cases hd : 0 ≤ r ∧ r ≤ 1114111
      · simp only [or_has, and_has, not_has, has_nil, ca, cb, cc, cna, cnb, coab, cobc, coac, cnab, cnbc, cnac]
        all_goals try simp only [hd, and_self, decide_true, Bool.true_and]
        all_goals (cases has a r <;> cases has b r <;> cases has c r <;> rfl)
      · have hf : has a r = false := by cases hh : has a r with | false => rfl | true => exact absurd (this hh) hd
        simp only [or_has, and_has, not_has, has_nil, ca, cb, cc, cna, cnb, coab, cobc, coac, cnab, cnbc, cnac]
        all_goals try simp only [hd, hf, decide_false, Bool.false_and]
        all_goals (cases has b r <;> cases has c r <;> rfl))
    have E_nn : notL (notL a) = a := canon_eq ((kna).not).canon ka.canon (fun r => by
      have := fun h => has_dom ca (r := r) h
      by_cases hd : 0 ≤ r ∧ r ≤ 1114111
      · simp only [or_has, and_has, not_has, has_nil, ca, cb, cc, cna, cnb, coab, cobc, coac, cnab, cnbc, cnac]
        all_goals try simp only [hd, and_self, decide_true, Bool.true_and]
        all_goals (cases has a r <;> cases has b r <;> cases has c r <;> rfl)
      · have hf : has a r = false := by cases hh : has a r with | false => rfl | true => exact absurd (this hh) hd
        simp only [or_has, and_has, not_has, has_nil, ca, cb, cc, cna, cnb, coab, cobc, coac, cnab, cnbc, cnac]
        all_goals try simp only [hd, hf, decide_false, Bool.false_and]
        all_goals (cases has b r <;> cases has c r <;> rfl))
    have E_H_o_a_a : ofS ((a) ++ (a)) = a := canon_eq ((ka).or ka).canon ka.canon (fun r => by
      have := fun h => has_dom ca (r := r) h
      by_cases hd : 0 ≤ r ∧ r ≤ 1114111
      · simp only [or_has, and_has, not_has, has_nil, ca, cb, cc, cna, cnb, coab, cobc, coac, cnab, cnbc, cnac]
        all_goals try simp only [hd, and_self, decide_true, Bool.true_and]
        all_goals (cases has a r <;> cases has b r <;> cases has c r <;> rfl)
      · have hf : has a r = false := by cases hh : has a r with | false => rfl | true => exact absurd (this hh) hd
        simp only [or_has, and_has, not_has, has_nil, ca, cb, cc, cna, cnb, coab, cobc, coac, cnab, cnbc, cnac]
        all_goals try simp only [hd, hf, decide_false, Bool.false_and]
        all_goals (cases has b r <;> cases has c r <;> rfl))
    have E_H_a_a_na : meetL (a) (notL a) = [] := canon_eq ((ka).and kna).canon kz.canon (fun r => by
      have := fun h => has_dom ca (r := r) h
      by_cases hd : 0 ≤ r ∧ r ≤ 1114111
      · simp only [or_has, and_has, not_has, has_nil, ca, cb, cc, cna, cnb, coab, cobc, coac, cnab, cnbc, cnac]
        all_goals try simp only [hd, and_self, decide_true, Bool.true_and]
        all_goals (cases has a r <;> cases has b r <;> cases has c r <;> rfl)
      · have hf : has a r = false := by cases hh : has a r with | false => rfl | true => exact absurd (this hh) hd
        simp only [or_has, and_has, not_has, has_nil, ca, cb, cc, cna, cnb, coab, cobc, coac, cnab, cnbc, cnac]
        all_goals try simp only [hd, hf, decide_false, Bool.false_and]
        all_goals (cases has b r <;> cases has c r <;> rfl))
    have HM := Lib.hid (fun W (e : Ext w W) => MinusS_any Pa a.length qa a Pb b.length qb b W (ha.ext e) (hb.ext e))
    rw [wrong_two (ka.good (by omega)) (kb.good (by omega))] at HM
    exact algebra_walk Pa qa a Pb qb b Pc qc c (ofS (a ++ b)) (meetL a b) (ofS (ofS (a ++ b) ++ c)) (ofS (b ++ c)) (meetL (meetL a b) c) (meetL b c) (meetL a (ofS (b ++ c))) (meetL a c) (ofS (a ++ meetL b c)) (ofS (a ++ c)) (notL (ofS (a ++ b))) (notL a) (notL b) ([]) (meetL a (notL b)) w ha hb hc hs
      (op2_or ka kb (by omega) rfl)
      (op2_or kb ka (by omega) E_H_o_b_a)
      (op2_and ka kb (by omega) rfl)
      (op2_and kb ka (by omega) E_H_a_b_a)
      (op2_or koab kc (by omega) E_H_o_oab_c)
      (op2_or kb kc (by omega) rfl)
      (op2_or ka kobc (by omega) E_H_o_a_obc)
      (op2_and knab kc (by omega) rfl)
      (op2_and kb kc (by omega) rfl)
      (op2_and ka knbc (by omega) E_H_a_a_nbc)
      (op2_and ka kobc (by omega) rfl)
      (op2_and ka kc (by omega) rfl)
      (op2_or knab knac (by omega) E_H_o_nab_nac)
      (op2_or ka knbc (by omega) E_H_o_a_nbc)
      (op2_or ka kc (by omega) rfl)
      (op2_and koab koac (by omega) E_H_a_oab_oac)
      (op1_not koab (by omega) rfl)
      (op1_not ka (by omega) rfl)
      (op1_not kb (by omega) rfl)
      (op2_and kna knb (by omega) E_H_a_na_nb)
      (op1_not kna (by omega) E_nn)
      (op2_or ka ka (by omega) E_H_o_a_a)
      (op2_and ka kna (by omega) E_H_a_a_na)
      (op2_and ka knb (by omega) rfl)
      (Lib.hid (fun W A c hs => Same2_any A none 0 c 0 [] W hs (SlR.nil _ _ _ _ _ _ (by unfold maxLen; omega))))
      (Lib.hid (fun W e => (HM.out W e).mono fun e w' h => ⟨setO_ok (by have := ky6.len; omega) h.1, h.2⟩))
  · have hs' : smallB [a, b, c] = false := by simpa using hs
    have C1 := Lib.hid (alive2_any w)
    have C2 := Lib.hid (fun W (e : Ext w W) => small_any _ 3 3 [a, b, c] _ (sets_three 67 (ha.ext e) (hb.ext e) (hc.ext e)) (by omega))
    rw [hs'] at C2
    clear hs hs'
    go_enter Try.func17, Try.ntmps17
    go_wp2_with (first
      | (go_at_call 52; refine C1.out.mono ?_; rintro e w1 ⟨rfl, x1⟩; have x1' := x1.alloc (.cells #[.slice Pa a.length qa, .slice Pb b.length qb, .slice Pc c.length qc] 67))
      | (go_at_call 70; refine (C2.out w1 x1).mono ?_; rintro e w2 ⟨rfl, x2⟩))
    go_ret
    exact ⟨rfl, x1'.trans x2⟩

end Go.Proofs.Ytfdkbhbnldcbmaa
