/- Plain laws of sets: one form for one set; edges. No program in sight. -/
import Derived.Test.YtfdkbhbnldcbmaaSpec
namespace Go.Proofs.Ytfdkbhbnldcbmaa
set_option linter.unusedVariables false
set_option linter.unusedSimpArgs false

/-- spans that rise, with room between them, each of them with a rune, all of them runes -/
structure Canon (l : List Sp) : Prop where
  rng : ∀ x ∈ l, 0 ≤ x.lo ∧ x.lo ≤ x.hi ∧ x.hi ≤ 1114111
  pw : l.Pairwise fun a b => a.hi + 1 < b.lo
theorem Good.canon {l : List Sp} (h : Good l) : Canon l := ⟨h.rng, h.pw⟩
theorem Canon.good {l : List Sp} (h : Canon l) (hl : l.length ≤ 200) : Good l := ⟨hl, h.rng, h.pw⟩
theorem Canon.tail {x : Sp} {l : List Sp} (h : Canon (x :: l)) : Canon l := ⟨fun y hy => h.rng y (List.mem_cons_of_mem _ hy), (List.pairwise_cons.1 h.pw).2⟩
theorem Canon.nil : Canon [] := ⟨fun x hx => by simp at hx, List.Pairwise.nil⟩
theorem has_cons (x : Sp) (l : List Sp) (r : Int) : has (x :: l) r = (inSp x r || has l r) := rfl
theorem has_nil (r : Int) : has [] r = false := rfl
theorem inSp_iff {x : Sp} {r : Int} : inSp x r = true ↔ x.lo ≤ r ∧ r ≤ x.hi := by simp [inSp]
/-- what lies behind a span begins behind it -/
theorem Canon.behind {x : Sp} {l : List Sp} (h : Canon (x :: l)) {r : Int} (hr : has l r = true) : x.hi + 1 < r := by
  obtain ⟨y, hy, h1, h2⟩ := has_iff.1 hr
  have := (List.pairwise_cons.1 h.pw).1 y hy
  omega

theorem canon_eq : ∀ {a b : List Sp}, Canon a → Canon b → (∀ r, has a r = has b r) → a = b
  | [], [], _, _, _ => rfl
  | [], y :: b, _, hb, h => by
    have := h y.lo
    have hy := hb.rng y (by simp)
    rw [has_nil, has_cons, inSp_iff.2 ⟨by omega, by omega⟩] at this
    simp at this
  | x :: a, [], ha, _, h => by
    have := h x.lo
    have hx := ha.rng x (by simp)
    rw [has_nil, has_cons, inSp_iff.2 ⟨by omega, by omega⟩] at this
    simp at this
  | x :: a, y :: b, ha, hb, h => by
    have hx := ha.rng x (by simp)
    have hy := hb.rng y (by simp)
    have key : ∀ {x y : Sp} {a b : List Sp}, Canon (x :: a) → Canon (y :: b) → (∀ r, has (x :: a) r = has (y :: b) r) → y.lo ≤ x.lo := by
      intro x y a b ha hb h
      have hx := ha.rng x (by simp)
      have := h x.lo
      rw [has_cons, inSp_iff.2 ⟨by omega, by omega⟩, Bool.true_or, has_cons] at this
      have := this.symm
      rw [Bool.or_eq_true] at this
      rcases this with h1 | h1
      · exact (inSp_iff.1 h1).1
      · have := hb.behind h1
        have := hb.rng y (by simp)
        omega
    have e1 : x.lo = y.lo := Int.le_antisymm (key hb ha fun r => (h r).symm) (key ha hb h)
    have key2 : ∀ {x y : Sp} {a b : List Sp}, Canon (x :: a) → Canon (y :: b) → (∀ r, has (x :: a) r = has (y :: b) r) → x.lo = y.lo → y.hi ≤ x.hi := by
      intro x y a b ha hb h e
      by_cases hlt : x.hi < y.hi
      · exfalso
        have hx := ha.rng x (by simp)
        have := h (x.hi + 1)
        have h2 : has (y :: b) (x.hi + 1) = true := by rw [has_cons, inSp_iff.2 ⟨by omega, by omega⟩, Bool.true_or]
        rw [h2, has_cons, Bool.or_eq_true] at this
        rcases this with h1 | h1
        · have := (inSp_iff.1 h1).2; omega
        · have := ha.behind h1; omega
      · omega
    have e2 : x.hi = y.hi := Int.le_antisymm (key2 hb ha (fun r => (h r).symm) e1.symm) (key2 ha hb h e1)
    have exy : x = y := Sp.ext' e1 e2
    subst exy
    have : a = b := canon_eq ha.tail hb.tail fun r => by
      have := h r
      rw [has_cons, has_cons] at this
      cases hi : inSp x r
      · simpa [hi] using this
      · have h1 : has a r = false := by
          cases e : has a r
          · rfl
          · have := ha.behind e; have := (inSp_iff.1 hi).2; omega
        have h2 : has b r = false := by
          cases e : has b r
          · rfl
          · have := hb.behind e; have := (inSp_iff.1 hi).2; omega
        rw [h1, h2]
    rw [this]

/-! ### sorted spans put together -/
def mergeFrom : Sp → List Sp → List Sp
  | c, [] => [c]
  | c, x :: r => if x.lo ≤ c.hi + 1 then mergeFrom ⟨c.lo, max c.hi x.hi⟩ r else c :: mergeFrom x r
def mergedL : List Sp → List Sp
  | [] => []
  | x :: r => mergeFrom x r
def okSp (x : Sp) : Prop := 0 ≤ x.lo ∧ x.lo ≤ x.hi ∧ x.hi ≤ 1114111
theorem okSp_iff {x : Sp} : spBad x = false ↔ okSp x := ⟨fun h => by have := spBad_no h; exact ⟨this.1, this.2.2, this.2.1⟩, fun h => by unfold okSp at h; unfold spBad; rw [decide_eq_false (by omega), decide_eq_false (by omega), decide_eq_false (by omega)]; rfl⟩

theorem mergeFrom_has : ∀ (l : List Sp) (c : Sp) (r : Int), okSp c → (∀ x ∈ l, okSp x) → (c :: l).Pairwise (fun a b => a.lo ≤ b.lo) → has (mergeFrom c l) r = (inSp c r || has l r)
  | [], c, r, _, _, _ => by simp [mergeFrom, has]
  | x :: l, c, r, hc, hl, hp => by
    have hx := hl x (by simp)
    obtain ⟨p1, p2⟩ := List.pairwise_cons.1 hp
    obtain ⟨p3, p4⟩ := List.pairwise_cons.1 p2
    have hcx := p1 x (by simp)
    unfold okSp at hc hx
    unfold mergeFrom
    by_cases hm : x.lo ≤ c.hi + 1
    · have hc' : okSp ⟨c.lo, max c.hi x.hi⟩ := by unfold okSp; simp only []; omega
      rw [if_pos hm, mergeFrom_has l _ r hc' (fun y hy => hl y (by simp [hy])) (List.pairwise_cons.2 ⟨fun y hy => p1 y (by simp [hy]), p4⟩), has_cons, ← Bool.or_assoc]
      congr 1
      rw [Bool.eq_iff_iff, Bool.or_eq_true, inSp_iff, inSp_iff, inSp_iff]
      simp only []
      omega
    · rw [if_neg hm, has_cons, mergeFrom_has l x r hx (fun y hy => hl y (by simp [hy])) p2, has_cons]

theorem mergeFrom_canon : ∀ (l : List Sp) (c : Sp), okSp c → (∀ x ∈ l, okSp x) → (c :: l).Pairwise (fun a b => a.lo ≤ b.lo) →
    Canon (mergeFrom c l) ∧ ∀ y ∈ mergeFrom c l, c.lo ≤ y.lo
  | [], c, hc, _, _ => ⟨⟨fun x hx => by simp [mergeFrom] at hx; subst hx; exact hc, by simp [mergeFrom]⟩, fun y hy => by simp [mergeFrom] at hy; subst hy; exact Int.le_refl _⟩
  | x :: l, c, hc, hl, hp => by
    have hx := hl x (by simp)
    obtain ⟨p1, p2⟩ := List.pairwise_cons.1 hp
    obtain ⟨p3, p4⟩ := List.pairwise_cons.1 p2
    have hcx := p1 x (by simp)
    unfold okSp at hc hx
    unfold mergeFrom
    by_cases hm : x.lo ≤ c.hi + 1
    · rw [if_pos hm]
      exact mergeFrom_canon l ⟨c.lo, max c.hi x.hi⟩ (by unfold okSp; simp only []; omega) (fun y hy => hl y (by simp [hy])) (List.pairwise_cons.2 ⟨fun y hy => p1 y (by simp [hy]), p4⟩)
    · rw [if_neg hm]
      obtain ⟨h1, h2⟩ := mergeFrom_canon l x hx (fun y hy => hl y (by simp [hy])) p2
      refine ⟨⟨fun y hy => ?_, List.pairwise_cons.2 ⟨fun y hy => by have := h2 y hy; omega, h1.pw⟩⟩, fun y hy => ?_⟩
      · rcases List.mem_cons.1 hy with rfl | hy
        · exact hc
        · exact h1.rng y hy
      · rcases List.mem_cons.1 hy with rfl | hy
        · exact Int.le_refl _
        · have := h2 y hy; omega

theorem merged_has {l : List Sp} (hl : ∀ x ∈ l, okSp x) (hp : l.Pairwise (fun a b => a.lo ≤ b.lo)) (r : Int) : has (mergedL l) r = has l r := by
  cases l with
  | nil => rfl
  | cons x l => exact mergeFrom_has l x r (hl x (by simp)) (fun y hy => hl y (by simp [hy])) hp
theorem merged_canon {l : List Sp} (hl : ∀ x ∈ l, okSp x) (hp : l.Pairwise (fun a b => a.lo ≤ b.lo)) : Canon (mergedL l) := by
  cases l with
  | nil => exact Canon.nil
  | cons x l => exact (mergeFrom_canon l x (hl x (by simp)) (fun y hy => hl y (by simp [hy])) hp).1
theorem has_perm {a b : List Sp} (h : a.Perm b) (r : Int) : has a r = has b r := by
  rw [Bool.eq_iff_iff, has_iff, has_iff]
  exact ⟨fun ⟨x, hx, h1⟩ => ⟨x, h.mem_iff.1 hx, h1⟩, fun ⟨x, hx, h1⟩ => ⟨x, h.mem_iff.2 hx, h1⟩⟩

/-- THE set of some spans' runes -/
def IsSet (l : List Sp) (s : List Sp) : Prop := Canon s ∧ ∀ r, has s r = has l r
theorem IsSet.uniq {l s t : List Sp} (h : IsSet l s) (k : IsSet l t) : s = t := canon_eq h.1 k.1 fun r => (h.2 r).trans (k.2 r).symm
theorem merged_set {l s : List Sp} (hl : ∀ x ∈ l, okSp x) (hp : s.Perm l) (hs : s.Pairwise (fun a b => a.lo ≤ b.lo)) : IsSet l (mergedL s) := by
  have hl' : ∀ x ∈ s, okSp x := fun x hx => hl x (hp.mem_iff.1 hx)
  exact ⟨merged_canon hl' hs, fun r => (merged_has hl' hs r).trans (has_perm hp r)⟩

/-! ### edges -/
def insE (r : Int) : List Int → List Int
  | [] => [r]
  | x :: l => if x < r then x :: insE r l else if x = r then x :: l else r :: x :: l
def putE (l : List Int) (r : Int) : List Int := if 1114111 < r then l else insE r l
def edgesOf (l : List Sp) (e : List Int) : List Int := l.foldl (fun e x => putE (putE e x.lo) (x.hi + 1)) e
structure EdgeL (l : List Int) : Prop where
  pw : l.Pairwise (· < ·)
  rng : ∀ x ∈ l, 0 ≤ x ∧ x ≤ 1114111
theorem insE_mem {r y : Int} : ∀ {l : List Int}, y ∈ insE r l ↔ y = r ∨ y ∈ l
  | [] => by simp [insE]
  | x :: l => by
    unfold insE
    by_cases h1 : x < r
    · rw [if_pos h1, List.mem_cons, insE_mem, List.mem_cons]; constructor <;> (intro h; rcases h with h | h | h <;> simp [h])
    · rw [if_neg h1]
      by_cases h2 : x = r
      · rw [if_pos h2, List.mem_cons, ← h2]; constructor <;> (intro h; simp at h ⊢; omega)
      · rw [if_neg h2, List.mem_cons]
theorem insE_pw {r : Int} : ∀ {l : List Int}, l.Pairwise (· < ·) → (insE r l).Pairwise (· < ·)
  | [], _ => by simp [insE]
  | x :: l, h => by
    obtain ⟨p1, p2⟩ := List.pairwise_cons.1 h
    unfold insE
    by_cases h1 : x < r
    · rw [if_pos h1]
      exact List.pairwise_cons.2 ⟨fun y hy => by rcases insE_mem.1 hy with rfl | hy; exact h1; exact p1 y hy, insE_pw p2⟩
    · rw [if_neg h1]
      by_cases h2 : x = r
      · rw [if_pos h2]; exact h
      · rw [if_neg h2]
        exact List.pairwise_cons.2 ⟨fun y hy => by rcases List.mem_cons.1 hy with rfl | hy; omega; have := p1 y hy; omega, h⟩
theorem putE_edge {l : List Int} {r : Int} (h : EdgeL l) (hr : 0 ≤ r) : EdgeL (putE l r) := by
  unfold putE
  by_cases hb : 1114111 < r
  · rw [if_pos hb]; exact h
  · rw [if_neg hb]
    exact ⟨insE_pw h.pw, fun x hx => by rcases insE_mem.1 hx with rfl | hx; exact ⟨hr, by omega⟩; exact h.rng x hx⟩
theorem putE_mem {l : List Int} {r y : Int} : y ∈ putE l r ↔ (y = r ∧ r ≤ 1114111) ∨ y ∈ l := by
  unfold putE
  by_cases hb : 1114111 < r
  · rw [if_pos hb]; constructor
    · exact .inr
    · rintro (⟨_, h⟩ | h); omega; exact h
  · rw [if_neg hb, insE_mem]; constructor
    · rintro (h | h); exact .inl ⟨h, by omega⟩; exact .inr h
    · rintro (⟨h, _⟩ | h); exact .inl h; exact .inr h
theorem edgesOf_cons (x : Sp) (l : List Sp) (e : List Int) : edgesOf (x :: l) e = edgesOf l (putE (putE e x.lo) (x.hi + 1)) := rfl
theorem edgesOf_edge : ∀ (l : List Sp) (e : List Int), (∀ x ∈ l, okSp x) → EdgeL e → EdgeL (edgesOf l e)
  | [], e, _, he => he
  | x :: l, e, hl, he => by
    have hx := hl x (by simp)
    unfold okSp at hx
    exact edgesOf_edge l _ (fun y hy => hl y (by simp [hy])) (putE_edge (putE_edge he (by omega)) (by omega))
theorem edgesOf_old : ∀ (l : List Sp) (e : List Int) {y : Int}, y ∈ e → y ∈ edgesOf l e
  | [], e, y, h => h
  | x :: l, e, y, h => edgesOf_old l _ (putE_mem.2 (.inr (putE_mem.2 (.inr h))))
theorem edgesOf_mem : ∀ (l : List Sp) (e : List Int) {x : Sp}, x ∈ l → okSp x → x.lo ∈ edgesOf l e ∧ (x.hi + 1 ≤ 1114111 → x.hi + 1 ∈ edgesOf l e)
  | z :: l, e, x, h, hx => by
    rw [edgesOf_cons]
    rcases List.mem_cons.1 h with rfl | h
    · unfold okSp at hx
      exact ⟨edgesOf_old l _ (putE_mem.2 (.inr (putE_mem.2 (.inl ⟨rfl, by omega⟩)))), fun hb => edgesOf_old l _ (putE_mem.2 (.inl ⟨rfl, hb⟩))⟩
    · exact edgesOf_mem l _ h hx

/-! ### a set out of edges -/
def addSpan (out : List Sp) (lo hi : Int) : List Sp := match out.getLast? with
  | none => out ++ [⟨lo, hi⟩]
  | some z => if z.hi + 1 = lo then out.dropLast ++ [⟨z.lo, hi⟩] else out ++ [⟨lo, hi⟩]
/-- where the span that begins with the first edge ends -/
def endOf : List Int → Int
  | [] => 1114111
  | y :: _ => y - 1
def buildL (p : Int → Bool) : List Int → List Sp → List Sp
  | [], out => out
  | r :: e, out => buildL p e (if p r then addSpan out r (endOf e) else out)

/-- the last edge up to a rune -/
def lastE : List Int → Int → Int → Int
  | [], d, _ => d
  | x :: l, d, r => if x ≤ r then lastE l x r else d

theorem addSpan_has {out : List Sp} {lo hi : Int} (h1 : lo ≤ hi) (h2 : ∀ z ∈ out, z.lo ≤ z.hi) (r : Int) : has (addSpan out lo hi) r = (has out r || inSp ⟨lo, hi⟩ r) := by
  unfold addSpan
  cases e : out.getLast? with
  | none =>
    simp only []
    unfold has; rw [List.any_append]; simp
  | some z =>
    simp only []
    have hz : out = out.dropLast ++ [z] := by
      have hne : out ≠ [] := by intro h; rw [h] at e; simp at e
      have := List.dropLast_concat_getLast hne
      rw [List.getLast?_eq_some_getLast hne] at e
      rw [← Option.some.inj e]; exact this.symm
    by_cases hm : z.hi + 1 = lo
    · rw [if_pos hm]
      have hzm := h2 z (by rw [hz]; simp)
      conv => rhs; rw [hz]
      unfold has
      rw [List.any_append, List.any_append, Bool.or_assoc]
      congr 1
      simp only [List.any_cons, List.any_nil, Bool.or_false]
      rw [Bool.eq_iff_iff, Bool.or_eq_true, inSp_iff, inSp_iff, inSp_iff]
      simp only []
      omega
    · rw [if_neg hm]
      unfold has; rw [List.any_append]; simp

/-- what has been built so far: nothing behind B -/
structure Built (out : List Sp) (B : Int) : Prop where
  canon : Canon out
  le : ∀ x ∈ out, x.hi < B
theorem addSpan_built {out : List Sp} {lo hi : Int} (h : Built out lo) (h0 : 0 ≤ lo) (h1 : lo ≤ hi) (h2 : hi ≤ 1114111) : Built (addSpan out lo hi) (hi + 1) := by
  unfold addSpan
  cases e : out.getLast? with
  | none =>
    have : out = [] := List.getLast?_eq_none_iff.1 e
    subst this
    exact ⟨⟨fun x hx => by simp at hx; subst hx; exact ⟨h0, h1, h2⟩, by simp⟩, fun x hx => by simp at hx; subst hx; simp; omega⟩
  | some z =>
    simp only []
    have hz : out = out.dropLast ++ [z] := by
      have hne : out ≠ [] := by intro h; rw [h] at e; simp at e
      have := List.dropLast_concat_getLast hne
      rw [List.getLast?_eq_some_getLast hne] at e
      rw [← Option.some.inj e]; exact this.symm
    have hzr := h.canon.rng z (by rw [hz]; simp)
    have hzl := h.le z (by rw [hz]; simp)
    have hpw := h.canon.pw
    rw [hz, List.pairwise_append] at hpw
    by_cases hm : z.hi + 1 = lo
    · rw [if_pos hm]
      refine ⟨⟨fun x hx => ?_, ?_⟩, fun x hx => ?_⟩
      · rcases List.mem_append.1 hx with hx | hx
        · exact h.canon.rng x (by rw [hz]; simp [hx])
        · simp at hx; subst hx; simp only []; omega
      · rw [List.pairwise_append]
        exact ⟨hpw.1, by simp, fun a ha b hb => by simp at hb; subst hb; exact hpw.2.2 a ha z (by simp)⟩
      · rcases List.mem_append.1 hx with hx | hx
        · have := h.le x (by rw [hz]; simp [hx]); omega
        · simp at hx; subst hx; simp only []; omega
    · rw [if_neg hm]
      refine ⟨⟨fun x hx => ?_, ?_⟩, fun x hx => ?_⟩
      · rcases List.mem_append.1 hx with hx | hx
        · exact h.canon.rng x hx
        · simp at hx; subst hx; exact ⟨h0, h1, h2⟩
      · rw [List.pairwise_append]
        refine ⟨h.canon.pw, by simp, fun a ha b hb => ?_⟩
        simp at hb; subst hb
        simp only []
        rw [hz] at ha
        rcases List.mem_append.1 ha with ha | ha
        · have := hpw.2.2 a ha z (by simp); omega
        · simp at ha; subst ha; omega
      · rcases List.mem_append.1 hx with hx | hx
        · have := h.le x hx; omega
        · simp at hx; subst hx; simp only []; omega

theorem buildL_spec (p : Int → Bool) : ∀ (e : List Int) (out : List Sp) (B : Int), EdgeL e → (∀ x, e.head? = some x → Built out x) → (e = [] → Built out 1114112) →
    Canon (buildL p e out) ∧ ∀ r, has (buildL p e out) r = (has out r || (decide (∃ x, e.head? = some x ∧ x ≤ r) && decide (r ≤ 1114111) && p (lastE e B r)))
  | [], out, B, _, _, h => ⟨(h rfl).canon, fun r => by simp [buildL]⟩
  | x :: e, out, B, he, hb, _ => by
    have hB := hb x rfl
    have hxr := he.rng x (by simp)
    obtain ⟨p1, p2⟩ := List.pairwise_cons.1 he.pw
    have he' : EdgeL e := ⟨p2, fun y hy => he.rng y (by simp [hy])⟩
    have hend : x ≤ endOf e ∧ endOf e ≤ 1114111 := by
      cases e with
      | nil => exact ⟨hxr.2, Int.le_refl _⟩
      | cons y e => have := p1 y (by simp); have := he'.rng y (by simp); simp only [endOf]; omega
    have hnext : ∀ (out' : List Sp), Built out' (endOf e + 1) → (∀ z, e.head? = some z → Built out' z) ∧ (e = [] → Built out' 1114112) := by
      intro out' h
      constructor
      · intro z hz
        cases e with
        | nil => simp at hz
        | cons y e => simp at hz; subst hz; simp only [endOf] at h; exact ⟨h.canon, fun x hx => by have := h.le x hx; omega⟩
      · intro hz; subst hz; exact h
    have hcov : ∀ r, (decide (∃ y, (x :: e).head? = some y ∧ y ≤ r) && decide (r ≤ 1114111) && p (lastE (x :: e) B r)) =
        ((inSp ⟨x, endOf e⟩ r && p x) || (decide (∃ y, e.head? = some y ∧ y ≤ r) && decide (r ≤ 1114111) && p (lastE e x r))) := by
      intro r
      by_cases hr : x ≤ r
      · have e1 : lastE (x :: e) B r = lastE e x r := by rw [lastE, if_pos hr]
        rw [e1, decide_eq_true (show ∃ y, (x :: e).head? = some y ∧ y ≤ r from ⟨x, rfl, hr⟩), Bool.true_and]
        cases e with
        | nil =>
          simp only [lastE, endOf, List.head?_nil, reduceCtorEq, false_and, exists_false, decide_false, Bool.false_and, Bool.or_false]
          congr 1
          rw [Bool.eq_iff_iff, inSp_iff, decide_eq_true_eq]
          simp only []
          omega
        | cons y e =>
          by_cases hy : y ≤ r
          · have e2 : inSp ⟨x, endOf (y :: e)⟩ r = false := by
              cases h : inSp ⟨x, endOf (y :: e)⟩ r
              · rfl
              · have := (inSp_iff.1 h).2; simp only [endOf] at this; omega
            rw [e2, Bool.false_and, Bool.false_or, decide_eq_true (show ∃ z, (y :: e).head? = some z ∧ z ≤ r from ⟨y, rfl, hy⟩), Bool.true_and]
          · have e2 : inSp ⟨x, endOf (y :: e)⟩ r = true := inSp_iff.2 ⟨hr, by simp only [endOf]; omega⟩
            have e3 : r ≤ 1114111 := by have := he'.rng y (by simp); omega
            rw [e2, decide_eq_true e3, decide_eq_false (show ¬ ∃ z, (y :: e).head? = some z ∧ z ≤ r from fun ⟨z, h1, h2⟩ => by simp at h1; omega), lastE, if_neg hy]
            simp
      · have e2 : inSp ⟨x, endOf e⟩ r = false := by
          cases h : inSp ⟨x, endOf e⟩ r
          · rfl
          · exact absurd (inSp_iff.1 h).1 hr
        rw [e2, decide_eq_false (show ¬ ∃ y, (x :: e).head? = some y ∧ y ≤ r from fun ⟨z, h1, h2⟩ => by simp at h1; omega),
          decide_eq_false (show ¬ ∃ y, e.head? = some y ∧ y ≤ r from fun ⟨z, h1, h2⟩ => by have := p1 z (List.mem_of_mem_head? h1); omega)]
        simp
    unfold buildL
    cases hp : p x
    · rw [if_neg (by simp)]
      obtain ⟨n1, n2⟩ := hnext out ⟨hB.canon, fun z hz => by have := hB.le z hz; omega⟩
      obtain ⟨h1, h2⟩ := buildL_spec p e out x he' n1 n2
      exact ⟨h1, fun r => by rw [h2, hcov, hp]; simp⟩
    · rw [if_pos rfl]
      obtain ⟨n1, n2⟩ := hnext _ (addSpan_built hB hxr.1 hend.1 hend.2)
      obtain ⟨h1, h2⟩ := buildL_spec p e _ x he' n1 n2
      exact ⟨h1, fun r => by rw [h2, hcov, addSpan_has hend.1 (fun z hz => (hB.canon.rng z hz).2.1), hp, Bool.and_true, Bool.or_assoc]⟩

/-- what holds of all runes from an edge to the next one is what holds at the edge -/
theorem has_lastE {l : List Sp} {e : List Int} (he : EdgeL e) (hl : ∀ x ∈ l, okSp x) (hm : ∀ x ∈ l, x.lo ∈ e ∧ (x.hi + 1 ≤ 1114111 → x.hi + 1 ∈ e)) (h0 : (0 : Int) ∈ e) {r : Int} (hr0 : 0 ≤ r) (hr : r ≤ 1114111) (B : Int) :
    has l (lastE e B r) = has l r := by
  have key : ∀ (e : List Int) (B : Int), e.Pairwise (· < ·) → (∃ x ∈ e, x ≤ r) → lastE e B r ∈ e ∧ lastE e B r ≤ r ∧ ∀ x ∈ e, x ≤ r → x ≤ lastE e B r := by
    intro e
    induction e with
    | nil => intro B _ ⟨x, hx, _⟩; simp at hx
    | cons y e ih =>
      intro B hp hex
      obtain ⟨p1, p2⟩ := List.pairwise_cons.1 hp
      by_cases hy : y ≤ r
      · rw [lastE, if_pos hy]
        by_cases hz : ∃ x ∈ e, x ≤ r
        · obtain ⟨k1, k2, k3⟩ := ih y p2 hz
          exact ⟨by simp [k1], k2, fun x hx hxr => by
            rcases List.mem_cons.1 hx with rfl | hx
            · have := p1 _ k1; omega
            · exact k3 x hx hxr⟩
        · have : lastE e y r = y := by
            cases e with
            | nil => rfl
            | cons z e => rw [lastE, if_neg (fun h => hz ⟨z, by simp, h⟩)]
          rw [this]
          exact ⟨by simp, hy, fun x hx hxr => by
            rcases List.mem_cons.1 hx with rfl | hx
            · exact Int.le_refl _
            · exact absurd ⟨x, hx, hxr⟩ hz⟩
      · exfalso
        obtain ⟨x, hx, hxr⟩ := hex
        rcases List.mem_cons.1 hx with rfl | hx
        · exact hy hxr
        · have := p1 x hx; omega
  obtain ⟨k1, k2, k3⟩ := key e B he.pw ⟨0, h0, hr0⟩
  rw [Bool.eq_iff_iff, has_iff, has_iff]
  constructor
  · rintro ⟨x, hx, h1, h2⟩
    refine ⟨x, hx, by omega, ?_⟩
    by_cases hlt : r ≤ x.hi
    · exact hlt
    · exfalso
      have := hl x hx; unfold okSp at this
      have := k3 (x.hi + 1) ((hm x hx).2 (by omega)) (by omega)
      omega
  · rintro ⟨x, hx, h1, h2⟩
    exact ⟨x, hx, k3 x.lo (hm x hx).1 h1, by omega⟩

end Go.Proofs.Ytfdkbhbnldcbmaa
