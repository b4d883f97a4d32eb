/- Slices that a call makes: rows of its own, read as lists; appending onto them. No program in sight. -/
import Derived.Test.YtbcmfebfcoedkaaMem
import Derived.Maps.AppendAt
import Derived.Deep.RegionHeld3
namespace Go.Proofs.Ytbcmfebfcoedkaa
open Go.RowKit
set_option linter.unusedVariables false

/-- the cells of a list of elements, one behind the other -/
def Enc {α : Type} (R : World → List Value → α → Prop) (sz : Nat) (w : World) : List Value → List α → Prop
  | xs, [] => xs = []
  | xs, x :: l => ∃ vs r, xs = vs ++ r ∧ vs.length = sz ∧ R w vs x ∧ Enc R sz w r l

/-- elements whose cells are one value each -/
def One {α : Type} (R : World → List Value → α → Prop) : Prop := ∀ w vs x, R w vs x → ∀ u ∈ vs, u.oneCell' = true

theorem one_rune : One rRune := fun w vs x h u hu => by obtain ⟨rfl, _⟩ := h; simp at hu; subst hu; rfl
theorem one_int : One rInt := fun w vs x h u hu => by obtain ⟨rfl, _⟩ := h; simp at hu; subst hu; rfl
theorem one_span : One rSpan := fun w vs x h u hu => by obtain ⟨rfl, _⟩ := h; simp at hu; rcases hu with rfl | rfl <;> rfl
theorem one_sl {α : Type} (R : World → List Value → α → Prop) (sz : Nat) (ok : Nat → Prop) : One (rSl R sz ok) := fun w vs x h u hu => by obtain ⟨A, n, c, rfl, _⟩ := h; simp at hu; subst hu; rfl
theorem one_rule : One rRule := fun w vs x h u hu => by
  obtain ⟨s, f, A1, n1, c1, A2, n2, c2, A3, n3, c3, A4, n4, c4, k, rfl, _⟩ := h
  simp at hu; rcases hu with rfl | rfl | rfl | rfl | rfl | rfl | rfl <;> rfl

section
variable {α : Type} {R : World → List Value → α → Prop} {sz : Nat} {w w' : World}

theorem Enc.append : ∀ {xs : List Value} {l : List α} {ys : List Value} {m : List α}, Enc R sz w xs l → Enc R sz w ys m → Enc R sz w (xs ++ ys) (l ++ m)
  | xs, [], ys, m, h, k => by simp only [Enc] at h; subst h; simpa using k
  | xs, x :: l, ys, m, h, k => by
    obtain ⟨vs, r, rfl, h1, h2, h3⟩ := h
    exact ⟨vs, r ++ ys, by simp, h1, h2, h3.append k⟩
theorem Enc.len : ∀ {xs : List Value} {l : List α}, Enc R sz w xs l → xs.length = l.length * sz
  | xs, [], h => by simp only [Enc] at h; subst h; simp
  | xs, x :: l, h => by
    obtain ⟨vs, r, rfl, h1, h2, h3⟩ := h
    rw [List.length_append, h1, h3.len, List.length_cons, Nat.add_mul, Nat.one_mul, Nat.add_comm]
theorem Enc.get : ∀ {xs : List Value} {l : List α}, Enc R sz w xs l → ∀ (k : Nat) (x : α), l[k]? = some x → ∃ vs, vs.length = sz ∧ R w vs x ∧ ∀ j u, vs[j]? = some u → xs[k * sz + j]? = some u
  | xs, [], h, k, x, hx => by simp at hx
  | xs, y :: l, h, 0, x, hx => by
    obtain ⟨vs, r, rfl, h1, h2, h3⟩ := h
    simp at hx; subst hx
    exact ⟨vs, h1, h2, fun j u hu => by rw [Nat.zero_mul, Nat.zero_add, List.getElem?_append_left (lt_of_get hu)]; exact hu⟩
  | xs, y :: l, h, k + 1, x, hx => by
    obtain ⟨vs, r, rfl, h1, h2, h3⟩ := h
    simp at hx
    obtain ⟨vs', a, b, c⟩ := h3.get k x hx
    refine ⟨vs', a, b, fun j u hu => ?_⟩
    rw [List.getElem?_append_right (by rw [h1, Nat.add_mul]; omega)]
    have := c j u hu
    rw [show (k + 1) * sz + j - vs.length = k * sz + j by rw [h1, Nat.add_mul]; omega]
    exact this
theorem Enc.keep {ok : Nat → Prop} (hk : Keep R ok) (ha : Agree ok w w') : ∀ {xs : List Value} {l : List α}, Enc R sz w xs l → Enc R sz w' xs l
  | xs, [], h => h
  | xs, x :: l, h => by
    obtain ⟨vs, r, e, h1, h2, h3⟩ := h
    exact ⟨vs, r, e, h1, hk _ _ _ _ ha h2, h3.keep hk ha⟩
theorem Enc.mono {R' : World → List Value → α → Prop} (hR : ∀ vs x, R w vs x → R' w vs x) : ∀ {xs : List Value} {l : List α}, Enc R sz w xs l → Enc R' sz w xs l
  | xs, [], h => h
  | xs, x :: l, h => by
    obtain ⟨vs, r, e, h1, h2, h3⟩ := h
    exact ⟨vs, r, e, h1, hR _ _ h2, h3.mono hR⟩
theorem Enc.one (ho : One R) : ∀ {xs : List Value} {l : List α}, Enc R sz w xs l → ∀ u ∈ xs, u.oneCell' = true
  | xs, [], h, u, hu => by simp only [Enc] at h; subst h; simp at hu
  | xs, x :: l, h, u, hu => by
    obtain ⟨vs, r, rfl, h1, h2, h3⟩ := h
    rcases List.mem_append.1 hu with hu | hu
    · exact ho _ _ _ h2 u hu
    · exact h3.one ho u hu
theorem Enc.sing {vs : List Value} {x : α} (h1 : vs.length = sz) (h2 : R w vs x) : Enc R sz w vs [x] := ⟨vs, [], by simp, h1, h2, rfl⟩
/-- by the index -/
theorem Enc.of_get : ∀ (xs : List Value) (l : List α), xs.length = l.length * sz →
    (∀ k x, l[k]? = some x → ∃ vs, vs.length = sz ∧ R w vs x ∧ ∀ j u, vs[j]? = some u → xs[k * sz + j]? = some u) → Enc R sz w xs l
  | xs, [], hl, h => List.eq_nil_of_length_eq_zero (by simpa using hl)
  | xs, x :: l, hl, h => by
    simp only [List.length_cons, Nat.add_mul, Nat.one_mul] at hl
    obtain ⟨vs, h1, h2, h3⟩ := h 0 x rfl
    have hvs : xs.take sz = vs := by
      apply List.ext_getElem?
      intro j
      by_cases hj : j < sz
      · rw [List.getElem?_take_of_lt hj]
        have := h3 j (vs[j]'(by omega)) (List.getElem?_eq_getElem (by omega))
        rw [Nat.zero_mul, Nat.zero_add] at this
        rw [this, List.getElem?_eq_getElem (by omega)]
      · rw [List.getElem?_eq_none (by simp; omega), List.getElem?_eq_none (by omega)]
    refine ⟨vs, xs.drop sz, by rw [← hvs, List.take_append_drop], h1, h2, Enc.of_get _ l (by simp; omega) fun k y hy => ?_⟩
    obtain ⟨vs', a, b, c⟩ := h (k + 1) y (by simpa using hy)
    refine ⟨vs', a, b, fun j u hu => ?_⟩
    have := c j u hu
    rw [List.getElem?_drop, ← this]
    congr 1
    rw [Nat.add_mul]; omega

/-- the cells of a slice that reads as a list -/
theorem SlR.news {ok : Nat → Prop} {A : Option Addr} {n c : Nat} {l : List α} (h : SlR R sz ok w A n c l) (hn : 0 < n) :
    ∃ ad news, A = some ad ∧ news.length = n * sz ∧ Enc R sz w news l ∧ ∀ j u, news[j]? = some u → w.cell? (ad.add j) = some u := by
  obtain ⟨x0, hx0⟩ := h.idx hn
  obtain ⟨b, off, vs0, rfl, _⟩ := h.at_ 0 x0 hx0
  have key : ∀ m, m ≤ n → ∃ news, news.length = m * sz ∧ Enc R sz w news (l.take m) ∧ ∀ j u, news[j]? = some u → w.cell? ⟨b, off + j, none⟩ = some u := by
    intro m
    induction m with
    | zero => exact fun _ => ⟨[], by simp, rfl, fun j u hu => by simp at hu⟩
    | succ m ih =>
      intro hm
      obtain ⟨news, h1, h2, h3⟩ := ih (by omega)
      obtain ⟨x, hx⟩ := h.idx (k := m) (by omega)
      obtain ⟨b', off', vs, e, _, hv1, hv2, hv3⟩ := h.at_ m x hx
      simp only [Option.some.injEq, Addr.mk.injEq, and_true] at e
      obtain ⟨rfl, rfl⟩ := e
      refine ⟨news ++ vs, by rw [List.length_append, h1, hv1, Nat.add_mul, Nat.one_mul], ?_, fun j u hu => ?_⟩
      · rw [take_snoc hx]; exact h2.append (Enc.sing hv1 hv2)
      · by_cases hj : j < news.length
        · rw [List.getElem?_append_left hj] at hu; exact h3 j u hu
        · rw [List.getElem?_append_right (by omega)] at hu
          have := hv3 _ u hu
          rw [h1] at this
          rw [show off + j = off + m * sz + (j - m * sz) by omega]
          exact this
  obtain ⟨news, h1, h2, h3⟩ := key n (Nat.le_refl _)
  rw [take_all h.len (Nat.le_refl _)] at h2
  exact ⟨⟨b, off, none⟩, news, rfl, h1, h2, fun j u hu => by rw [addr_add]; exact h3 j u hu⟩
end

/-- a row of the call's own that reads as a list -/
def OwnR {α : Type} (R : World → List Value → α → Prop) (e : TypeId) (sz base : Nat) (w : World) (v : Value) (l : List α) : Prop :=
  ∃ xs, w.ownsRow base e sz v l.length xs ∧ Enc R sz w xs l

section
variable {α : Type} {R : World → List Value → α → Prop} {e : TypeId} {sz base : Nat} {w w' : World} {v : Value} {l : List α}

theorem OwnR.nil (R : World → List Value → α → Prop) (e : TypeId) (sz base : Nat) (w : World) : OwnR R e sz base w (.slice none 0 0) [] := ⟨[], World.ownsRow_nil w base e sz, rfl⟩
theorem OwnR.made {cur : Array Value} {cap : Nat} (hb : base ≤ w.heap.size) (hm : cap ≤ maxLen) (hs : cur.size = cap * sz) :
    OwnR R e sz base (w.alloc (.cells cur e)) (.slice (some ⟨w.heap.size, 0, none⟩) 0 cap) [] := ⟨[], World.ownsRow_made w cur cap hb hm hs, rfl⟩
/-- a new row, whole -/
theorem OwnR.fresh {cs : List Value} (hb : base ≤ w.heap.size) (hm : l.length ≤ maxLen) (he : Enc R sz (w.alloc (.cells cs.toArray e)) cs l) :
    OwnR R e sz base (w.alloc (.cells cs.toArray e)) (.slice (some ⟨w.heap.size, 0, none⟩) l.length l.length) l :=
  ⟨cs, ⟨he.len, .inr ⟨w.heap.size, l.length, cs.toArray, rfl, hb, heap_alloc_new w _, Nat.le_refl _, hm, by simpa using he.len, by
    rw [← he.len]; simp⟩⟩, he⟩

theorem OwnR.form (h : OwnR R e sz base w v l) : ∃ A c, v = .slice A l.length c ∧ l.length ≤ c ∧ c ≤ maxLen := by
  obtain ⟨xs, ⟨_, h | ⟨g, cap, cur, rfl, _, _, h1, h2, _⟩⟩, _⟩ := h
  · obtain ⟨rfl, h⟩ := h; rw [h]; exact ⟨none, 0, rfl, Nat.le_refl _, by simp [maxLen]⟩
  · exact ⟨_, _, rfl, h1, h2⟩
/-- it reads as a slice -/
theorem OwnR.sl (h : OwnR R e sz base w v l) : ∃ A c, v = .slice A l.length c ∧ SlR R sz (fun b => base ≤ b) w A l.length c l := by
  obtain ⟨xs, ⟨hl, h | ⟨g, cap, cur, rfl, hb, hh, h1, h2, h3, h4⟩⟩, he⟩ := h
  · obtain ⟨rfl, h⟩ := h
    rw [h]
    have : l = [] := List.eq_nil_of_length_eq_zero h
    subst this
    exact ⟨none, 0, rfl, SlR.nil _ _ _ _ _ _ (by simp [maxLen])⟩
  · refine ⟨_, _, rfl, rfl, h1, h2, fun k x hx => ?_⟩
    obtain ⟨vs, a, b, c⟩ := he.get k x hx
    refine ⟨g, 0, vs, rfl, hb, a, b, fun j u hu => ?_⟩
    rw [Nat.zero_add, cell_of_row w g _ cur e (0, 0) hh]
    have hc := c j u hu
    rw [← h4, List.getElem?_take] at hc
    split at hc
    · simpa using hc
    · simp at hc
theorem OwnR.top (h : OwnR R e sz base w v l) : ∃ A c, v = .slice A l.length c ∧ SlR R sz top w A l.length c l := by
  obtain ⟨A, c, e, hs⟩ := h.sl
  exact ⟨A, c, e, hs.mono (fun _ _ h => h) (fun _ _ => trivial)⟩
theorem OwnR.lt (h : OwnR R e sz base w v l) : ∀ g, v.ownBlock = some g → base ≤ g ∧ g < w.heap.size := by
  obtain ⟨xs, ho, _⟩ := h; exact ho.lt
/-- it is kept where its own block, and what its elements lean on, is kept -/
theorem OwnR.keep {ok : Nat → Prop} (hk : Keep R ok) (ha : Agree ok w w') (hv : ∀ g, v.ownBlock = some g → w'.heap[g]? = w.heap[g]?) (h : OwnR R e sz base w v l) : OwnR R e sz base w' v l := by
  obtain ⟨xs, ⟨hl, h⟩, he⟩ := h
  refine ⟨xs, ⟨hl, ?_⟩, he.keep hk ha⟩
  rcases h with h | ⟨g, cap, cur, rfl, hb, hh, r⟩
  · exact .inl h
  · exact .inr ⟨g, cap, cur, rfl, hb, by rw [hv g rfl]; exact hh, r⟩
theorem OwnR.ext {ok : Nat → Prop} (hk : Keep R ok) (h : OwnR R e sz base w v l) (hx : Ext w w') : OwnR R e sz base w' v l :=
  h.keep hk (hx.agree ok) (fun g hg => hx.block (h.lt g hg).2)
theorem OwnR.mono {base' : Nat} (h : OwnR R e sz base w v l) (hb : base' ≤ base) : OwnR R e sz base' w v l := by
  obtain ⟨xs, ⟨hl, h⟩, he⟩ := h
  refine ⟨xs, ⟨hl, ?_⟩, he⟩
  rcases h with h | ⟨g, cap, cur, rfl, hbb, r⟩
  · exact .inl h
  · exact .inr ⟨g, cap, cur, rfl, by omega, r⟩
theorem OwnR.weaken {R' : World → List Value → α → Prop} (h : OwnR R e sz base w v l) (hR : ∀ vs x, R w vs x → R' w vs x) : OwnR R' e sz base w v l := by
  obtain ⟨xs, ho, he⟩ := h
  exact ⟨xs, ho, he.mono hR⟩
end

/-! ### append -/
section
variable {P : Program} {α : Type} {R : World → List Value → α → Prop} {e : TypeId} {sz base : Nat} {w : World} {v : Value} {l : List α}

theorem run_append_noneR (t ty : TypeId) (i : TypeInfo) (ht : P.underlying t = some (.slice e)) (hi : P.info? e = some i) (n : Nat) (xs : List Value) (hown : w.ownsRow base e sz v n xs) (c : Nat) :
    (Builtin.append_ #[t, t] ty #[v, .slice none 0 c]).run P w = .ok v w := by
  rcases hown.2 with ⟨rfl, rfl⟩ | ⟨g, cap, cur, rfl, _, _, hnc, _⟩
  · simp [Builtin.append_, run_underlying ht, sizeOf, typeInfo, hi, Builtin.lenOf, Builtin.firstCells]
  · simp [Builtin.append_, run_underlying ht, sizeOf, typeInfo, hi, Builtin.lenOf, Builtin.firstCells, hnc, storeCells]

/-- the elements' type -/
structure ElemT (P : Program) (t e : TypeId) (sz bytes : Nat) : Prop where
  und : P.underlying t = some (.slice e)
  info : ∃ i z, P.info? e = some i ∧ i.zero = some z ∧ i.size = sz ∧ i.bytes = bytes ∧ z.cells.size = sz
  pos : 0 < sz
theorem elemT {t : TypeId} {bytes : Nat} {z : Value} (ht : P.underlying t = some (.slice e)) (h : (P.info? e).map (fun i => (i.zero, i.size, i.bytes)) = some (some z, sz, bytes)) (hz : z.cells.size = sz) (hs : 0 < sz) : ElemT P t e sz bytes := by
  obtain ⟨i, h1, h2, h3, h4⟩ := info_parts h
  exact ⟨ht, ⟨i, z, h1, h2, h3, h4, hz⟩, hs⟩

/-- onto a row of the call's own, from whatever slice -/
theorem run_app {t : TypeId} {bytes : Nat} (T : ElemT P t e sz bytes) (ty : TypeId) (hown : OwnR R e sz base w v l) {A : Option Addr} {m c : Nat} {l2 : List α} {R2 : World → List Value → α → Prop} {ok2 : Nat → Prop}
    (hsrc : SlR R2 sz ok2 w A m c l2) (hR : ∀ vs x, R2 w vs x → R w vs x) (one : One R) {okk : Nat → Prop} (hk : Keep R okk) (hok : ∀ g, v.ownBlock = some g → ¬ okk g)
    (hb : (l.length + m) * bytes ≤ 140737488355328) (h63 : l.length + m ≤ maxLen) (hbase : base ≤ w.heap.size) :
    ∃ v' w', (Builtin.append_ #[t, t] ty #[v, .slice A m c]).run P w = .ok v' w' ∧ OwnR R e sz base w' v' (l ++ l2) ∧ w.grownBy w' v.ownBlock ∧ (v'.ownBlock = v.ownBlock ∨ v'.ownBlock = some w.heap.size) := by
  obtain ⟨ht, ⟨i, z, hi, hz, hsz, hby, hzs⟩, hpos⟩ := T
  obtain ⟨xs, ho, he⟩ := hown
  have hlen2 : l2.length = m := hsrc.len
  by_cases hm : m = 0
  · subst hm
    have : l2 = [] := List.eq_nil_of_length_eq_zero hlen2
    subst this
    rcases A with _ | ad
    · exact ⟨v, w, run_append_noneR t ty i ht hi _ xs ho c, ⟨xs, by simpa using ho, by simpa using he⟩, World.grownBy.refl w _, .inl rfl⟩
    · obtain ⟨v', w', hrun, h2, h3, _, h5⟩ := run_append_own_at (P := P) w base t ty e i z sz bytes ht hi hz hsz hby hzs hpos v _ xs ho ad 0 c [] (by simp) (fun j u hu => by simp at hu) (fun u hu => by simp at hu) h63 hb hbase
      exact ⟨v', w', hrun, ⟨xs, by simpa using h2, by simpa using he.keep hk (grown_agree h3 hok)⟩, h3, h5⟩
  · obtain ⟨ad, news, rfl, hnl, hne, hnc⟩ := hsrc.news (by omega)
    have hne' := hne.mono hR
    obtain ⟨v', w', hrun, h2, h3, _, h5⟩ := run_append_own_at (P := P) w base t ty e i z sz bytes ht hi hz hsz hby hzs hpos v _ xs ho ad m c news hnl hnc (hne'.one one) h63 hb hbase
    refine ⟨v', w', hrun, ⟨xs ++ news, ?_, (he.keep hk (grown_agree h3 hok)).append (hne'.keep hk (grown_agree h3 hok))⟩, h3, h5⟩
    rw [List.length_append, hlen2]; exact h2

/-- at the operation -/
theorem wp_app {t : TypeId} {bytes : Nat} (T : ElemT P t e sz bytes) {o : Oper} {a : Act} {K : Act → World → Prop} {Q : Exit → Act → World → Prop} (s x : Operand)
    (ho : o.op = .call { callee := .builtin .append, args := #[s, x], argTypes := #[t, t] }) (hs : a.eval s = v) (hown : OwnR R e sz base w v l) {A : Option Addr} {m c : Nat} (hx : a.eval x = .slice A m c) {l2 : List α} {R2 : World → List Value → α → Prop} {ok2 : Nat → Prop}
    (hsrc : SlR R2 sz ok2 w A m c l2) (hR : ∀ vs x, R2 w vs x → R w vs x) (one : One R) {okk : Nat → Prop} (hk : Keep R okk) (hok : ∀ g, v.ownBlock = some g → ¬ okk g)
    (hb : (l.length + m) * bytes ≤ 140737488355328) (h63 : l.length + m ≤ maxLen) (hbase : base ≤ w.heap.size)
    (h : ∀ v' w', OwnR R e sz base w' v' (l ++ l2) → w.grownBy w' v.ownBlock → (v'.ownBlock = v.ownBlock ∨ v'.ownBlock = some w.heap.size) → K (a.put o.dst v') w') : o.wp P a w K Q := by
  obtain ⟨v', w', hrun, h2, h3, h4⟩ := run_app (P := P) T o.type hown hsrc hR one hk hok hb h63 hbase
  unfold Oper.wp execOp
  simp only [ho, resolve, invoke, builtin, Sem.run_bind, Sem.run_pure, Result.andThen_ok, List.map_toArray, List.map_cons, List.map_nil, hs, hx, hrun]
  exact h v' w' h2 h3 h4

/-- in a plain region's list -/
theorem wpList_app {t : TypeId} {bytes : Nat} (T : ElemT P t e sz bytes) {ops : Array Oper} {rest : List Oper} {o : Oper} {a : Act} {Q : Exit → Act → World → Prop} (hgd : o.guard = none) (s x : Operand)
    (ho : o.op = .call { callee := .builtin .append, args := #[s, x], argTypes := #[t, t] }) (hs : a.eval s = v) (hown : OwnR R e sz base w v l) {A : Option Addr} {m c : Nat} (hx : a.eval x = .slice A m c) {l2 : List α} {R2 : World → List Value → α → Prop} {ok2 : Nat → Prop}
    (hsrc : SlR R2 sz ok2 w A m c l2) (hR : ∀ vs x, R2 w vs x → R w vs x) (one : One R) {okk : Nat → Prop} (hk : Keep R okk) (hok : ∀ g, v.ownBlock = some g → ¬ okk g)
    (hb : (l.length + m) * bytes ≤ 140737488355328) (h63 : l.length + m ≤ maxLen) (hbase : base ≤ w.heap.size)
    (h : ∀ v' w', OwnR R e sz base w' v' (l ++ l2) → w.grownBy w' v.ownBlock → (v'.ownBlock = v.ownBlock ∨ v'.ownBlock = some w.heap.size) → wpList P ops Q rest (a.put o.dst v') w') : wpList P ops Q (o :: rest) a w :=
  wpList_plain hgd fun _ hK => wp_app T s x ho hs hown hx hsrc hR one hk hok hb h63 hbase fun v' w' h2 h3 h4 => hK _ _ (h v' w' h2 h3 h4)

/-- at a step of a region that draws its order -/
theorem step_app {t : TypeId} {bytes : Nat} (T : ElemT P t e sz bytes) {ops : Array Oper} {o : Oper} {a : Act} {K : Act → World → Prop} {Q : Exit → Act → World → Prop} {E : Prop} (hgd : o.guard = none) (s x : Operand)
    (ho : o.op = .call { callee := .builtin .append, args := #[s, x], argTypes := #[t, t] }) (hs : a.eval s = v) (hown : OwnR R e sz base w v l) {A : Option Addr} {m c : Nat} (hx : a.eval x = .slice A m c) {l2 : List α} {R2 : World → List Value → α → Prop} {ok2 : Nat → Prop}
    (hsrc : SlR R2 sz ok2 w A m c l2) (hR : ∀ vs x, R2 w vs x → R w vs x) (one : One R) {okk : Nat → Prop} (hk : Keep R okk) (hok : ∀ g, v.ownBlock = some g → ¬ okk g)
    (hb : (l.length + m) * bytes ≤ 140737488355328) (h63 : l.length + m ≤ maxLen) (hbase : base ≤ w.heap.size)
    (h : ∀ v' w', OwnR R e sz base w' v' (l ++ l2) → w.grownBy w' v.ownBlock → (v'.ownBlock = v.ownBlock ∨ v'.ownBlock = some w.heap.size) → K (a.put o.dst v') w') :
    if Region.wanted o (yielded ops a.tmps) = true then Oper.wp P o a w K Q else E := by
  have hw : Region.wanted o (yielded ops a.tmps) = true := by simp [Region.wanted, hgd]
  rw [if_pos hw]
  exact wp_app T s x ho hs hown hx hsrc hR one hk hok hb h63 hbase h
end

/-- what a flat element leans on: nothing -/
def bot : Nat → Prop := fun _ => False
theorem bot_no (v : Value) : ∀ g, v.ownBlock = some g → ¬ bot g := fun _ _ h => h

theorem Ext.app {a w w' : World} {v : Value} (h : Ext a w) (hg : w.grownBy w' v.ownBlock) {α : Type} {R : World → List Value → α → Prop} {e : TypeId} {sz : Nat} {l : List α} (ho : OwnR R e sz a.heap.size w v l) : Ext a w' :=
  h.grown hg (fun k hk => (ho.lt k hk).1)

end Go.Proofs.Ytbcmfebfcoedkaa
