/- Plain laws: where no rule begins nothing changes; what is steady stays. No program in sight. -/
import Derived.Test.YtfdkbhbnldcbmaaPl9
import Derived.Test.YtfdkbhbnldcbmaaPl3
namespace Go.Proofs.Ytfdkbhbnldcbmaa
set_option linter.unusedVariables false
set_option linter.unusedSimpArgs false

/-- a rule's first set -/
def set0 (r : Rule) : List Sp := r.source.headD []
/-- all spans with which a rule may begin -/
def allF (l : List Rule) : List Sp := l.flatMap set0
theorem has_allF {l : List Rule} {r : Rule} (hr : r ∈ l) {x : Int} (h : has (set0 r) x = true) : has (allF l) x = true := by
  unfold has at h ⊢
  rw [List.any_eq_true] at h ⊢
  obtain ⟨y, hy, hx⟩ := h
  exact ⟨y, List.mem_flatMap.2 ⟨r, hr, hy⟩, hx⟩
theorem set0_ok {r : Rule} (ok : OkRule r) : ∃ ss, r.source = set0 r :: ss ∧ Good (set0 r) := by
  have h0 := ok.s0
  unfold set0
  cases h : r.source with
  | nil => rw [h] at h0; simp at h0
  | cons s ss => exact ⟨ss, rfl, good_of (ok.s s (by rw [h]; simp))⟩
theorem allF_ok {l : List Rule} (ok : ∀ r ∈ l, OkRule r) : ∀ x ∈ allF l, okSp x := fun x hx => by
  obtain ⟨r, hr, hx⟩ := List.mem_flatMap.1 hx
  obtain ⟨_, _, g⟩ := set0_ok (ok r hr)
  exact good_ok g x hx
theorem allF_snoc (l : List Rule) (r : Rule) : allF (l ++ [r]) = allF l ++ set0 r := by simp [allF]
theorem allF_len : ∀ (l : List Rule), (∀ r ∈ l, OkRule r) → (allF l).length ≤ 200 * l.length
  | [], _ => by simp [allF]
  | r :: l, h => by
    have h1 := allF_len l fun x hx => h x (by simp [hx])
    obtain ⟨_, _, g⟩ := set0_ok (h r (by simp))
    have := g.len
    have e : allF (r :: l) = set0 r ++ allF l := by simp [allF]
    rw [e, List.length_append, List.length_cons]
    omega

/-! ### where no rule begins -/
theorem here_first {r : Rule} (ok : OkRule r) {t : List Int} {a : Nat} {x : Int} (hx : t[a]? = some x) (hn : has (set0 r) x = false) : here r t a = false := by
  obtain ⟨ss, hs, _⟩ := set0_ok ok
  have : allAt t a r.source = false := by
    unfold allAt
    rw [hs, Int.toNat_natCast, drop_cons hx]
    unfold zipHas
    rw [hn]; simp
  unfold here
  rw [this]; rfl
theorem first_none {l : List Rule} {t : List Int} {a : Int} (h : ∀ r ∈ l, here r t a = false) : first l t a = -1 := by
  unfold first
  exact idxFrom_neg _ _ _ (by rw [List.any_eq_false]; intro r hr; rw [h r hr]; simp)
theorem first_neg {l : List Rule} {t : List Int} {a : Int} (h : first l t a < 0) : ∀ r ∈ l, here r t a = false := by
  intro r hr
  cases hh : here r t a with
  | false => rfl
  | true =>
    have := idxFrom_nonneg (fun r => here r t a) 0 l (List.any_eq_true.2 ⟨r, hr, hh⟩)
    unfold first at h
    omega
/-- a text in which no rule matches is played through -/
theorem play_still {l : List Rule} {t : List Int} (h : ∀ a : Nat, a < t.length → first l t a < 0) : ∀ (n a s p : Nat), a ≤ t.length → t.length - a ≤ n →
    play l n ⟨t, a, s, p⟩ = ⟨t, s + (t.length - a), p, 0⟩
  | n, a, s, p, ha, hn => by
    by_cases hlt : a < t.length
    · match n with
      | 0 => omega
      | n + 1 =>
        rw [play_next hlt (playStep_no (h a hlt)), play_still h n (a + 1) (s + 1) p (by omega) (by omega)]
        congr 1; omega
    · rw [play_end (by simpa using hlt)]
      show (⟨t, s, p, 0⟩ : Out) = ⟨t, s + (t.length - a), p, 0⟩
      congr 1; omega
theorem run_still {l : List Rule} {t : List Int} (hc : (checkRun l t).1 = 0) (h : ∀ a : Nat, a < t.length → first l t a < 0) : runAll l t = ⟨t, t.length, 0, 0⟩ ∧ runF l t = (0, 0) := by
  have e : runText l t = ⟨t, t.length, 0, 0⟩ := by
    unfold runText
    rw [play_still h _ 0 0 0 (by omega) (by omega)]
    congr 1; omega
  rw [runAll_ok hc, runF_ok hc, e]
  exact ⟨rfl, rfl⟩
theorem check_both {l : List Rule} {t : List Int} (hr : (wrongRules l).1 = 0) (ht : wrongText t = 0) : (checkRun l t).1 = 0 := by rw [checkRun_text hr]; exact ht
theorem check_parts {l : List Rule} {t : List Int} (h : (checkRun l t).1 = 0) : (wrongRules l).1 = 0 ∧ wrongText t = 0 := by
  by_cases hz : (wrongRules l).1 = 0
  · rw [checkRun_text hz] at h; exact ⟨hz, h⟩
  · rw [checkRun_rules hz] at h; exact absurd h hz
theorem text_parts {t : List Int} (h : wrongText t = 0) : t.length ≤ 4000 ∧ t.all right = true := by
  unfold wrongText at h
  by_cases h1 : 4000 < t.length
  · rw [if_pos h1] at h; simp at h
  · rw [if_neg h1] at h
    cases h2 : t.all right with
    | true => exact ⟨by omega, rfl⟩
    | false => rw [h2] at h; simp at h
theorem text_mk {t : List Int} (h1 : t.length ≤ 4000) (h2 : t.all right = true) : wrongText t = 0 := by
  unfold wrongText; rw [if_neg (by omega), h2]; rfl

/-- the law AnalyseFirsts -/
theorem firsts_law {l : List Rule} {t : List Int} (hr : (wrongRules l).1 = 0) (he : ofE (allF l) = 0) (ht : wrongText t = 0) :
    runAll l (t.filter fun x => !has (ofV (allF l)) x) = ⟨t.filter fun x => !has (ofV (allF l)) x, (t.filter fun x => !has (ofV (allF l)) x).length, 0, 0⟩ ∧ runF l (t.filter fun x => !has (ofV (allF l)) x) = (0, 0) := by
  obtain ⟨_, _, hok⟩ := wrongRules_zero hr
  obtain ⟨t1, t2⟩ := text_parts ht
  have hset := ofS_set (allF_ok hok)
  have hv : ofV (allF l) = ofS (allF l) := by
    by_cases hg : 200 < (ofS (allF l)).length
    · have hb : (allF l).any spBad = false := by rw [List.any_eq_false]; intro x hx; simpa using okSp_iff.2 (allF_ok hok x hx)
      rw [(ofE_big hb hg).1] at he; simp at he
    · have hb : (allF l).any spBad = false := by rw [List.any_eq_false]; intro x hx; simpa using okSp_iff.2 (allF_ok hok x hx)
      exact (ofE_ok hb hg).2
  refine run_still (check_both hr (text_mk (Nat.le_trans (List.length_filter_le _ _) t1) ?_)) fun a ha => ?_
  · rw [List.all_eq_true] at t2 ⊢
    exact fun x hx => t2 x (List.mem_filter.1 hx).1
  · obtain ⟨x, hx⟩ : ∃ x, (t.filter fun x => !has (ofV (allF l)) x)[a]? = some x := ⟨_, List.getElem?_eq_getElem ha⟩
    have hm := (List.mem_filter.1 (List.mem_of_getElem? hx)).2
    rw [first_none fun r hr' => here_first (hok r hr') hx ?_]
    · omega
    · cases hh : has (set0 r) x with
      | false => rfl
      | true =>
        rw [hv, hset.2 x, has_allF hr' hh] at hm
        simp at hm

/-! ### steady rules -/
/-- one rune, nothing behind, the text's end not asked; always on; and what is put begins no rule -/
def steadyR (l : List Rule) (r : Rule) : Bool := decide (r.source.length = 1) && decide (r.after.length = 0) && !r.fin && !(r.target.any fun x => has (ofV (allF l)) x)
def steadyB (l : List Rule) : Bool := sureR l && l.all fun r => steadyR l r

theorem zipHas_ahead : ∀ (b : List (List Sp)) (u v : List Int), b.length ≤ u.length → b.length ≤ v.length → u.take b.length = v.take b.length → zipHas b u = zipHas b v
  | [], _, _, _, _, _ => rfl
  | s :: b, [], _, h, _, _ => by simp at h
  | s :: b, _ :: _, [], _, h, _ => by simp at h
  | s :: b, x :: u, y :: v, h1, h2, h3 => by
    simp only [List.length_cons, List.take_succ_cons, List.cons.injEq] at h1 h2 h3
    unfold zipHas
    rw [h3.1, zipHas_ahead b u v (by omega) (by omega) h3.2]
/-- what a steady rule says at a place hangs on what is ahead, and on the rune there -/
theorem here_ahead {r : Rule} (h1 : r.source.length = 1) (h2 : r.after.length = 0) (h3 : r.fin = false) {t u : List Int} {a : Nat} (ht : a < t.length) (hu : a < u.length) (h : t.take (a + 1) = u.take (a + 1)) : here r t a = here r u a := by
  have ha : r.after = [] := List.eq_nil_of_length_eq_zero h2
  have hget : ∀ k, k < a + 1 → t[k]? = u[k]? := fun k hk => by
    have := congrArg (fun l : List Int => l[k]?) h
    simp only [List.getElem?_take_of_lt hk] at this
    exact this
  have e1 : allAt t a r.source = allAt u a r.source := by
    rw [allAt_in (by omega) (by rw [h1]; omega), allAt_in (by omega) (by rw [h1]; omega), Int.toNat_natCast]
    refine zipHas_ahead _ _ _ (by rw [List.length_drop]; omega) (by rw [List.length_drop]; omega) ?_
    rw [h1]
    apply List.ext_getElem?
    intro k
    by_cases hk : k < 1
    · rw [List.getElem?_take_of_lt hk, List.getElem?_take_of_lt hk, List.getElem?_drop, List.getElem?_drop]
      exact hget (a + k) (by omega)
    · rw [List.getElem?_eq_none (by simp; omega), List.getElem?_eq_none (by simp; omega)]
  have e2 : allAt t ((a : Int) - r.before.length) r.before = allAt u ((a : Int) - r.before.length) r.before := by
    by_cases hn : (a : Int) - r.before.length < 0
    · rw [allAt_neg hn, allAt_neg hn]
    · rw [allAt_in (by omega) (by omega), allAt_in (by omega) (by omega)]
      refine zipHas_ahead _ _ _ (by rw [List.length_drop]; omega) (by rw [List.length_drop]; omega) ?_
      apply List.ext_getElem?
      intro k
      by_cases hk : k < r.before.length
      · rw [List.getElem?_take_of_lt hk, List.getElem?_take_of_lt hk, List.getElem?_drop, List.getElem?_drop]
        exact hget _ (by omega)
      · rw [List.getElem?_eq_none (by simp; omega), List.getElem?_eq_none (by simp; omega)]
  have e3 : allAt t ((a : Int) + r.source.length) r.after = allAt u ((a : Int) + r.source.length) r.after := by
    rw [ha, h1]
    unfold allAt
    rw [decide_eq_true (show (0 : Int) ≤ (a : Int) + (1 : Nat) by omega), decide_eq_true (show (a : Int) + (1 : Nat) + ([] : List (List Sp)).length ≤ t.length by simp; omega), decide_eq_true (show (a : Int) + (1 : Nat) + ([] : List (List Sp)).length ≤ u.length by simp; omega)]
    rfl
  unfold here
  rw [e1, e2, e3, h3]
  simp

theorem steady_mem {l : List Rule} (h : steadyB l = true) {r : Rule} (hr : r ∈ l) : r.cursor = r.target.length ∧ r.source.length = 1 ∧ r.after.length = 0 ∧ r.fin = false ∧ ∀ x ∈ r.target, has (ofV (allF l)) x = false := by
  unfold steadyB at h
  rw [Bool.and_eq_true] at h
  have h1 := sureR_mem h.1 hr
  have h2 := (List.all_eq_true.1 h.2) r hr
  unfold steadyR at h2
  simp only [Bool.and_eq_true, decide_eq_true_eq, Bool.not_eq_true', List.any_eq_false] at h2
  exact ⟨h1, h2.1.1.1, h2.1.1.2, h2.1.2, fun x hx => by simpa using h2.2 x hx⟩

theorem put_steady {r : Rule} {t : List Int} {a : Nat} (h1 : r.source.length = 1) (ha : a < t.length) :
    (putAt r t a).length = a + r.target.length + (t.length - a - 1) ∧ (putAt r t a).take a = t.take a ∧ ∀ k, k < r.target.length → (putAt r t a)[a + k]? = r.target[k]? := by
  unfold putAt
  rw [h1]
  refine ⟨by simp; omega, ?_, fun k hk => ?_⟩
  · rw [List.append_assoc, List.take_append_of_le_length (by simp; omega), List.take_take]
    congr 1; omega
  · rw [List.append_assoc, List.getElem?_append_right (by simp; omega), List.getElem?_append_left (by simp; omega)]
    congr 1
    simp
    omega

/-- the text's runes stay right, and where the cursor was no rule matches -/
theorem play_steady {l : List Rule} (hs : steadyB l = true) (hok : ∀ r ∈ l, OkRule r) (hF : ∀ r ∈ l, ∀ x, has (set0 r) x = true → has (ofV (allF l)) x = true) :
    ∀ (n : Nat) (t : List Int) (a s p : Nat), a ≤ t.length → wrongText t = 0 → (∀ b : Nat, b < a → first l t b < 0) → (play l n ⟨t, a, s, p⟩).err = 0 →
      wrongText (play l n ⟨t, a, s, p⟩).text = 0 ∧ ∀ b : Nat, b < (play l n ⟨t, a, s, p⟩).text.length → first l (play l n ⟨t, a, s, p⟩).text b < 0
  | n, t, a, s, p, ha, ht, hq, he => by
    by_cases hlt : a < t.length
    · match n with
      | 0 => rw [play_out hlt] at he; simp at he
      | n + 1 =>
        by_cases hk : first l t a < 0
        · rw [play_next hlt (playStep_no hk)] at he ⊢
          exact play_steady hs hok hF n t (a + 1) (s + 1) p (by omega) ht (fun b hb => by
            by_cases hba : b < a
            · exact hq b hba
            · obtain rfl : b = a := by omega
              exact hk) he
        · obtain ⟨i, r, hir, hh, hf⟩ := first_mem (by omega : 0 ≤ first l t a)
          have hm := List.mem_of_getElem? hir
          have ok := hok r hm
          obtain ⟨c1, c2, c3, c4, c5⟩ := steady_mem hs hm
          by_cases hb : 4000 < (t.length : Int) - r.source.length + r.target.length
          · rw [play_none hlt (playStep_much hf hir hb)] at he; simp at he
          · rw [play_next hlt (playStep_put hf hir hb)] at he ⊢
            obtain ⟨p1, p2, p3⟩ := put_steady (r := r) c2 hlt
            have e : r.cursor.toNat = r.target.length := by omega
            rw [e] at he ⊢
            obtain ⟨t1, t2⟩ := text_parts ht
            refine play_steady hs hok hF n (putAt r t a) (a + r.target.length) (s + 1) (p + 1) (by omega) (text_mk (by omega) ?_) (fun b hb' => ?_) he
            · have tr := ok.tr
              rw [List.all_eq_true] at t2 tr ⊢
              intro x hx
              unfold putAt at hx
              rcases List.mem_append.1 hx with hx | hx
              · rcases List.mem_append.1 hx with hx | hx
                · exact t2 x (List.mem_of_mem_take hx)
                · exact tr x hx
              · exact t2 x (List.mem_of_mem_drop hx)
            · by_cases hba : b < a
              · have h0 := hq b hba
                rw [first_none fun q hqm => ?_]
                · omega
                · obtain ⟨_, d2, d3, d4, _⟩ := steady_mem hs hqm
                  rw [← first_neg h0 q hqm]
                  refine here_ahead d2 d3 d4 (by omega) (by omega) ?_
                  have h5 : ((putAt r t a).take a).take (b + 1) = (t.take a).take (b + 1) := by rw [p2]
                  rw [List.take_take, List.take_take, show min (b + 1) a = b + 1 by omega] at h5
                  exact h5
              · have hx := p3 (b - a) (by omega)
                rw [show a + (b - a) = b by omega] at hx
                obtain ⟨x, hxx⟩ : ∃ x, r.target[b - a]? = some x := ⟨_, List.getElem?_eq_getElem (by omega)⟩
                rw [hxx] at hx
                rw [first_none fun q hqm => here_first (hok q hqm) hx ?_]
                · omega
                · cases hh2 : has (set0 q) x with
                  | false => rfl
                  | true =>
                    have h6 := hF q hqm x hh2
                    rw [c5 x (List.mem_of_getElem? hxx)] at h6
                    cases h6
    · rw [play_end (by simpa using hlt)] at he ⊢
      exact ⟨ht, fun b hb => hq b (by simp only [] at hb; omega)⟩

/-- the law AnalyseSteady -/
theorem steady_law {l : List Rule} {t : List Int} (hr : (wrongRules l).1 = 0) (he : ofE (allF l) = 0) (hs : steadyB l = true) (hf : (runF l t).1 = 0) :
    runAll l (runAll l t).text = ⟨(runAll l t).text, (runAll l t).text.length, 0, 0⟩ ∧ runF l (runAll l t).text = (0, 0) := by
  obtain ⟨_, _, hok⟩ := wrongRules_zero hr
  have hset := ofS_set (allF_ok hok)
  have hb : (allF l).any spBad = false := by rw [List.any_eq_false]; intro x hx; simpa using okSp_iff.2 (allF_ok hok x hx)
  have hv : ofV (allF l) = ofS (allF l) := by
    by_cases hg : 200 < (ofS (allF l)).length
    · rw [(ofE_big hb hg).1] at he; simp at he
    · exact (ofE_ok hb hg).2
  have hc : (checkRun l t).1 = 0 := by
    by_cases hz : (checkRun l t).1 = 0
    · exact hz
    · rw [runF_bad hz] at hf; exact absurd hf hz
  obtain ⟨_, ht⟩ := check_parts hc
  rw [runF_ok hc] at hf
  have hF : ∀ r ∈ l, ∀ x, has (set0 r) x = true → has (ofV (allF l)) x = true := fun r hr x hx => by rw [hv, hset.2 x]; exact has_allF hr hx
  have hp := play_steady hs hok hF (8 * t.length + 40) t 0 0 0 (by omega) ht (fun b hb => by omega) hf
  rw [runAll_ok hc]
  exact run_still (check_both hr hp.1) hp.2

end Go.Proofs.Ytfdkbhbnldcbmaa
