/- Walks: the set of some spans. -/
import Derived.Test.YtfdkbhbnldcbmaaW34
import Derived.Test.YtfdkbhbnldcbmaaW32
namespace Go.Proofs.Ytfdkbhbnldcbmaa
open Go.RowKit Go.Shelf Go.Lib Go.Sort
set_option linter.unusedVariables false
set_option linter.unusedSimpArgs false

theorem insNone_any (fv : Value) (w : World) : Calls Try.prog 154 #[.slice none 0 0, .int .i64 0, .int .i64 0, fv] w fun e w' => e = .returned (.tuple #[]) ∧ w = w' := by
  go_enter Try.func154, Try.ntmps154
  go_wp2
  go_loop [8] (fun i => i = .int .i64 1) (fun _ => 0)
  case atStart => rfl
  case round =>
    obtain rfl := hrel
    go_wp2
    go_end0
    exact ⟨rfl, rfl⟩

set_option maxRecDepth 100000 in
set_option maxHeartbeats 1000000 in
theorem pdqNone_any (x : Int) (fv : Value) (w : World) : Calls Try.prog 146 #[.slice none 0 0, .int .i64 0, .int .i64 0, .int .i64 x, fv] w fun e w' => e = .returned (.tuple #[]) ∧ w = w' := by
  go_enter Try.func146, Try.ntmps146
  go_wp2
  refine wp_loop_rounds 1 ?_
  rw [rounds_succ]
  go_wp2_with (go_at_call 154; refine (insNone_any _ _).mono ?_; rintro e w' ⟨rfl, rfl⟩)
  exact bodyPost_ret (v := .tuple #[]) (by simp [results, Try.results146, go_sem]) rfl ⟨rfl, rfl⟩

theorem sortNone_any (fv : Value) (w : World) : Calls Try.prog 117 #[.slice none 0 0, fv] w fun e w' => e = .returned (.tuple #[]) ∧ w = w' := by
  have hl : Hid (∀ W, Calls Try.prog 147 #[.int .u64 0] W fun e w' => e = .returned (.int .i64 (Lib.bitLen 0 : Nat)) ∧ w' = W) := Lib.hid fun W =>
    Any.bits_Len (SlLaysF0.n15.bits (P := Try.prog) (ρ := sortSp_ren) { sortSp with }) 0 W (by omega) (by omega)
  go_enter Try.func117, Try.ntmps117
  go_wp2_with (first
    | (go_at_call 147; refine (hl.out _).mono ?_; rintro e w' ⟨rfl, rfl⟩)
    | (go_at_call 146; refine (pdqNone_any _ _ _).mono ?_; rintro e w' ⟨rfl, rfl⟩))
  go_end0
  exact ⟨rfl, rfl⟩

theorem SortOwn_any {e : TypeId} {base : Nat} {v : Value} {l : List Sp} (w a : World) (h : OwnR rSpan e 2 base w v l) (ha : Ext a w) (hb : a.heap.size ≤ base) (hn : l.length < 4611686018427387904) :
    Calls Try.prog 117 #[v, .func (.func 118) #[] #[]] w
      fun e w' => e = .returned (.tuple #[]) ∧ (∃ (s : List Sp) (A : Option Addr) (c : Nat), s.Perm l ∧ s.Pairwise (fun a b => a.lo ≤ b.lo) ∧ v = .slice A l.length c ∧ Spans w' A l.length c s) ∧ Ext a w' := by
  obtain ⟨A, c, rfl, hs⟩ := h.sl
  obtain ⟨xs, ⟨_, ⟨hv, hl⟩ | ⟨g, cap, cur, hv, hg, hh, _⟩⟩, _⟩ := h
  · simp only [Value.slice.injEq] at hv
    obtain ⟨rfl, _, rfl⟩ := hv
    have : l = [] := List.eq_nil_of_length_eq_zero hl
    subst this
    refine (sortNone_any _ _).mono ?_
    rintro e w' ⟨rfl, rfl⟩
    exact ⟨rfl, ⟨[], none, 0, List.Perm.refl _, by simp, rfl, SlR.nil _ _ _ _ _ _ (by unfold maxLen; omega)⟩, ha⟩
  · simp only [Value.slice.injEq] at hv
    obtain ⟨rfl, _, rfl⟩ := hv
    refine (SortSp_any g l.length c l w a hs (fun i => frozen_of_row w _ i cur _ hh) ?_ ha (by omega) hn).mono ?_
    · exact (Array.getElem?_eq_some_iff.1 hh).1
    · rintro e w' ⟨rfl, ⟨s, h1, h2, h3⟩, h4⟩
      exact ⟨rfl, ⟨s, _, c, h1, h2, rfl, h3⟩, h4⟩

/-- THE set of some spans, in its one form -/
def ofS (l : List Sp) : List Sp := mergedL (l.mergeSort fun a b => decide (a.lo ≤ b.lo))
theorem ofS_set {l : List Sp} (h : ∀ x ∈ l, okSp x) : IsSet l (ofS l) := by
  refine merged_set h (List.mergeSort_perm _ _) ?_
  have := List.pairwise_mergeSort (le := fun a b : Sp => decide (a.lo ≤ b.lo)) (fun a b c h1 h2 => by simp at *; omega) (fun a b => by simp; omega) l
  exact this.imp fun h => by simpa using h
def ofE (l : List Sp) : Int := if l.any spBad then 3 else if 200 < (ofS l).length then 5 else 0
def ofV (l : List Sp) : List Sp := if ofE l ≠ 0 then [] else ofS l
theorem ofE_bad {l : List Sp} (h : l.any spBad = true) : ofE l = 3 ∧ ofV l = [] := by
  have : ofE l = 3 := by unfold ofE; rw [if_pos h]
  exact ⟨this, by unfold ofV; rw [if_pos (by rw [this]; simp)]⟩
theorem ofE_big {l : List Sp} (h : l.any spBad = false) (hb : 200 < (ofS l).length) : ofE l = 5 ∧ ofV l = [] := by
  have : ofE l = 5 := by unfold ofE; rw [if_neg (by simp [h]), if_pos hb]
  exact ⟨this, by unfold ofV; rw [if_pos (by rw [this]; simp)]⟩
theorem ofE_ok {l : List Sp} (h : l.any spBad = false) (hb : ¬ 200 < (ofS l).length) : ofE l = 0 ∧ ofV l = ofS l := by
  have : ofE l = 0 := by unfold ofE; rw [if_neg (by simp [h]), if_neg hb]
  exact ⟨this, by unfold ofV; rw [if_neg (by rw [this]; simp)]⟩
theorem okAll {l : List Sp} (h : l.any spBad = false) : ∀ x ∈ l, okSp x := fun x hx => okSp_iff.1 (by
  rw [List.any_eq_false] at h; simpa using h x hx)

/-- a set, or what is wrong -/
def SetR (s : List Sp) (err : Int) (w' : World) (e : Ending) : Prop := ∃ A c, e = .returned (.tuple #[.slice A s.length c, .int .i64 err]) ∧ Spans w' A s.length c s
theorem SetR.no {s : List Sp} {err er : Int} {w' : World} (h1 : s = []) (h2 : err = er) : SetR s err w' (.returned (.tuple #[.slice none 0 0, .int .i64 er])) := by
  subst h1 h2; exact ⟨none, 0, rfl, SlR.nil _ _ _ _ _ _ (by unfold maxLen; omega)⟩

set_option maxRecDepth 100000 in
set_option maxHeartbeats 1600000 in
theorem Of_any (A : Option Addr) (n c : Nat) (l : List Sp) (w : World) (h : Spans w A n c l) (hn : n * 8 ≤ 140737488353280) :
    Calls Try.prog 53 #[.slice A n c] w fun e w' => SetR (ofV l) (ofE l) w' e ∧ Ext w w' := by
  have hlen := Lib.hid h.len
  have hcap := h.cap
  have HCl := Lib.hid (fun W (e : Ext w W) => Clone_span one_span (keep_span bot) A n c l W (h.ext e) (by omega) (fun _ _ h => h))
  go_enter Try.func53, Try.ntmps53
  go_wp2
  go_loopw [9] (fun i wr => ∃ k : Nat, k ≤ n ∧ i = .int .i64 k ∧ l.any spBad = (l.drop k).any spBad ∧ Ext w wr) (fun i _ => n - (intOf i).toNat)
  case atStart => exact ⟨0, by omega, rfl, rfl, Ext.refl _⟩
  case round =>
    obtain ⟨k, hk, rfl, hkk, hx⟩ := hrel
    have HK := Lib.hid hkk; clear hkk
    by_cases hlt : k < n
    · obtain ⟨x, hxx⟩ := h.idx hlt
      obtain ⟨b, off, rfl, ⟨_, hne⟩, c1, c2, xb1, xb2⟩ := (h.ext hx).span hxx
      have HD := Lib.hid (drop_cons hxx); clear hxx
      have ex := hx.alloc (.cells #[.int .i32 x.lo, .int .i32 x.hi] 80)
      cases hb : spBad x
      · have HK2 : Hid (l.any spBad = (l.drop (k + 1)).any spBad) := Lib.hid (by rw [HK.out, HD.out, List.any_cons, hb, Bool.false_or])
        have hr := spBad_no hb
        have b1 : decide (x.lo < 0) = false := by simp; omega
        have b2 : decide (1114111 < x.hi) = false := by simp; omega
        have b3 : decide (x.hi < x.lo) = false := by simp; omega
        clear hb
        go_wp2
        go_roundw
        case rel => exact ⟨k + 1, by omega, by go_num, HK2.out, ex⟩
        case measure => simp [intOf]; omega
      · obtain ⟨hE, hV⟩ := ofE_bad (l := l) (by rw [HK.out, HD.out, List.any_cons, hb, Bool.true_or])
        have HE := Lib.hid hE; have HV := Lib.hid hV
        have hr : decide (x.lo < 0) = true ∨ (decide (x.lo < 0) = false ∧ decide (1114111 < x.hi) = true) ∨ (decide (x.lo < 0) = false ∧ decide (1114111 < x.hi) = false ∧ decide (x.hi < x.lo) = true) := by
          have := spBad_yes hb
          by_cases a1 : x.lo < 0
          · exact .inl (by simpa using a1)
          · by_cases a2 : 1114111 < x.hi
            · exact .inr (.inl ⟨by simpa using a1, by simpa using a2⟩)
            · exact .inr (.inr ⟨by simpa using a1, by simpa using a2, by simp; omega⟩)
        clear hb hE hV
        rcases hr with b1 | ⟨b1, b2⟩ | ⟨b1, b2, b3⟩
        all_goals
          go_wp2
          go_ret2
          exact ⟨SetR.no HV.out HE.out, ex⟩
    · have hnb : l.any spBad = false := by rw [HK.out, drop_end hlen.out hlt]; rfl
      have hok := okAll hnb
      have HS := Lib.hid (ofS_set hok)
      have HM := Lib.hid (fun W A' c' s (hs : Spans W A' n c' s) (hp : ∀ x ∈ s, okSp x) => merged_any A' n c' s W hs (by omega) hp)
      have HOK := Lib.hid hok
      by_cases hbig : 200 < (ofS l).length
      · obtain ⟨hE, hV⟩ := ofE_big hnb hbig
        have HE := Lib.hid hE; have HV := Lib.hid hV
        clear hE hV hnb hok HK
        go_wp2_with (first
          | (go_at_call 116; refine (HCl.out _ hx).mono ?_; rintro e w1 ⟨v, rfl, ov, x1⟩)
          | (go_at_call 117; refine (SortOwn_any _ wr ov x1 (Nat.le_refl _) (by rw [hlen.out]; omega)).mono ?_; rintro e w2 ⟨rfl, ⟨s, A2, c2, hp, hso, rfl, hs⟩, x2⟩; rw [hlen.out] at hs ⊢)
          | (go_at_call 121; refine (HM.out _ A2 c2 s hs (fun x hx => HOK.out x (hp.mem_iff.1 hx))).mono ?_; rintro e w3 ⟨v3, rfl, o3, x3⟩; rw [(merged_set HOK.out hp hso).uniq HS.out] at o3; obtain ⟨A3, c3, rfl, s3⟩ := o3.top; have e3 := (hx.trans x2).trans x3)
          | (go_at_call 120; refine (fit_big A3 _ c3 w3 hbig s3.cap s3.max).mono ?_; rintro e w' ⟨rfl, rfl⟩))
        go_ret2
        exact ⟨SetR.no HV.out HE.out, e3⟩
      · obtain ⟨hE, hV⟩ := ofE_ok hnb hbig
        have HE := Lib.hid hE; have HV := Lib.hid hV
        clear hE hV hnb hok HK
        go_wp2_with (first
          | (go_at_call 116; refine (HCl.out _ hx).mono ?_; rintro e w1 ⟨v, rfl, ov, x1⟩)
          | (go_at_call 117; refine (SortOwn_any _ wr ov x1 (Nat.le_refl _) (by rw [hlen.out]; omega)).mono ?_; rintro e w2 ⟨rfl, ⟨s, A2, c2, hp, hso, rfl, hs⟩, x2⟩; rw [hlen.out] at hs ⊢)
          | (go_at_call 121; refine (HM.out _ A2 c2 s hs (fun x hx => HOK.out x (hp.mem_iff.1 hx))).mono ?_; rintro e w3 ⟨v3, rfl, o3, x3⟩; rw [(merged_set HOK.out hp hso).uniq HS.out] at o3; obtain ⟨A3, c3, rfl, s3⟩ := o3.top; have e3 := (hx.trans x2).trans x3)
          | (go_at_call 120; refine (fit_small A3 _ c3 w3 hbig).mono ?_; rintro e w' ⟨rfl, rfl⟩))
        go_ret2
        exact ⟨by rw [HE.out, HV.out]; exact ⟨A3, c3, rfl, s3⟩, e3⟩

end Go.Proofs.Ytfdkbhbnldcbmaa
