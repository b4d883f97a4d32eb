/- Slice expressions, as equations for the walk. No program in sight. -/
import Derived.Test.YtbcmfebfcoedkaaOwn
namespace Go.Proofs.Ytbcmfebfcoedkaa
open Go.RowKit
set_option linter.unusedVariables false

/-- where 's[lo:]' begins -/
def cutA (A : Option Addr) (c lo sz : Nat) : Option Addr := if c = lo then A else A.map (·.add (lo * sz))

section
variable {P : Program} {t e : TypeId} {sz bytes : Nat}
theorem elem_of (T : ElemT P t e sz bytes) : P.underlying t = some (.slice (P.elem t)) ∧ P.elem t = e := by
  have h := T.und
  have : P.elem t = e := by simp [Program.elem, h]
  exact ⟨by rw [this]; exact h, this⟩
theorem sizeOf_of (T : ElemT P t e sz bytes) (W : World) : (sizeOf (P.elem t)).run P W = .ok sz W := by
  obtain ⟨i, z, h1, _, h3, _⟩ := T.info
  rw [(elem_of T).2]
  simp [sizeOf, typeInfo, h1, h3]
theorem run_cut_h (T : ElemT P t e sz bytes) (A : Option Addr) (n c : Nat) (i : Int) (h : Nat) (ei : i = h) (hh : h ≤ c) (W : World) :
    (Instr.sliceAt t (.slice A n c) none (some (.int .i64 i)) none).run P W = .ok (.slice A h c) W := by
  subst ei
  rw [run_sliceAt_slice (h := (elem_of T).1), run_slice_h (ht := (elem_of T).1) (h0 := by omega) (h2 := by omega), sizeOf_of T]
  simp [sliced, Result.andThen, Addr.add]
theorem run_cut_l (T : ElemT P t e sz bytes) (A : Option Addr) (n c : Nat) (i : Int) (l : Nat) (ei : i = l) (hh : l ≤ n) (W : World) :
    (Instr.sliceAt t (.slice A n c) (some (.int .i64 i)) none none).run P W = .ok (.slice (cutA A c l sz) (n - l) (c - l)) W := by
  subst ei
  rw [run_sliceAt_slice (h := (elem_of T).1), run_slice_l (ht := (elem_of T).1) (h0 := by omega) (h1 := by omega), sizeOf_of T]
  simp [sliced, Result.andThen, cutA]
theorem run_cut_lh (T : ElemT P t e sz bytes) (A : Option Addr) (n c : Nat) (i j : Int) (l h : Nat) (ei : i = l) (ej : j = h) (hl : l ≤ h) (hh : h ≤ c) (W : World) :
    (Instr.sliceAt t (.slice A n c) (some (.int .i64 i)) (some (.int .i64 j)) none).run P W = .ok (.slice (cutA A c l sz) (h - l) (c - l)) W := by
  subst ei; subst ej
  rw [run_sliceAt_slice (h := (elem_of T).1), run_slice_lh (ht := (elem_of T).1) (h0 := by omega) (h1 := by omega) (h2 := by omega), sizeOf_of T]
  simp [sliced, Result.andThen, cutA]
end

section
variable {α : Type} {R : World → List Value → α → Prop} {sz : Nat} {ok : Nat → Prop} {w : World} {A : Option Addr} {n c : Nat} {l : List α}
theorem SlR.take (h : SlR R sz ok w A n c l) {hi : Nat} (hh : hi ≤ n) : SlR R sz ok w A hi c (l.take hi) := by
  have := h.cut (lo := 0) (hi := hi) (A' := A) (by omega) hh (fun _ => by cases A <;> simp [Addr.add])
  simpa using this
theorem SlR.drop (h : SlR R sz ok w A n c l) {lo : Nat} (hh : lo ≤ n) : SlR R sz ok w (cutA A c lo sz) (n - lo) (c - lo) (l.drop lo) := by
  have hc := h.cap
  have := h.cut (lo := lo) (hi := n) (A' := cutA A c lo sz) hh (Nat.le_refl _) (fun hlt => by unfold cutA; rw [if_neg (by omega)])
  rwa [take_all h.len (Nat.le_refl _)] at this
theorem SlR.mid (h : SlR R sz ok w A n c l) {lo hi : Nat} (h1 : lo ≤ hi) (h2 : hi ≤ n) : SlR R sz ok w (cutA A c lo sz) (hi - lo) (c - lo) ((l.take hi).drop lo) := by
  have hc := h.cap
  exact h.cut h1 h2 (fun hlt => by unfold cutA; rw [if_neg (by omega)])
end

/-- R holds on in greater worlds -/
def KeepX {α : Type} (R : World → List Value → α → Prop) : Prop := ∀ w w' vs x, Ext w w' → R w vs x → R w' vs x
theorem Keep.x {α : Type} {R : World → List Value → α → Prop} {ok : Nat → Prop} (h : Keep R ok) : KeepX R := fun w w' vs x e => h w w' vs x (e.agree ok)
theorem SlR.extX {α : Type} {R : World → List Value → α → Prop} {sz : Nat} {ok : Nat → Prop} {w w' : World} {A : Option Addr} {n c : Nat} {l : List α} (h : SlR R sz ok w A n c l) (hk : KeepX R) (e : Ext w w') : SlR R sz ok w' A n c l :=
  ⟨h.len, h.cap, h.max, fun k x hx => by
    obtain ⟨b, off, vs, e1, ho, hl, hr, hc⟩ := h.at_ k x hx
    exact ⟨b, off, vs, e1, ho, hl, hk _ _ _ _ e hr, fun j u hu => e.cell (hc j u hu)⟩⟩
theorem keepX_sl {α : Type} {R : World → List Value → α → Prop} {sz : Nat} {ok : Nat → Prop} (hk : KeepX R) : KeepX (rSl R sz ok) :=
  fun _ _ _ _ e ⟨A, n, c, e1, h⟩ => ⟨A, n, c, e1, h.extX hk e⟩

/-- sets that lie below a bound -/
theorem sets_lt {w : World} {A : Option Addr} {n c : Nat} {l : List (List Sp)} (h : Sets w A n c l) : SlR (rSl rSpan 2 (fun b => b < w.heap.size)) 1 (fun b => b < w.heap.size) w A n c l := by
  have h1 := SlR.lt (by omega) h
  exact h1.mono (fun vs x ⟨A', n', c', e, hs⟩ => ⟨A', n', c', e, (SlR.lt (by omega) hs).mono (fun _ _ h => h) (fun _ h => h.2)⟩) (fun _ h => h.2)
theorem texts_lt {w : World} {A : Option Addr} {n c : Nat} {l : List (List Int)} (h : Texts w A n c l) : SlR (rSl rRune 1 (fun b => b < w.heap.size)) 1 (fun b => b < w.heap.size) w A n c l := by
  have h1 := SlR.lt (by omega) h
  exact h1.mono (fun vs x ⟨A', n', c', e, hs⟩ => ⟨A', n', c', e, (SlR.lt (by omega) hs).mono (fun _ _ h => h) (fun _ h => h.2)⟩) (fun _ h => h.2)
theorem keep_setB (B : Nat) : Keep (rSl rSpan 2 (fun b => b < B)) (fun b => b < B) := keep_sl (keep_span _)
theorem keep_textB (B : Nat) : Keep (rSl rRune 1 (fun b => b < B)) (fun b => b < B) := keep_sl (keep_rune _)
theorem sets_top {ok1 ok2 : Nat → Prop} {w : World} {A : Option Addr} {n c : Nat} {l : List (List Sp)} (h : SlR (rSl rSpan 2 ok1) 1 ok2 w A n c l) : Sets w A n c l :=
  h.mono (fun vs x ⟨A', n', c', e, hs⟩ => ⟨A', n', c', e, hs.mono (fun _ _ h => h) (fun _ _ => trivial)⟩) (fun _ _ => trivial)
theorem texts_top {ok1 ok2 : Nat → Prop} {w : World} {A : Option Addr} {n c : Nat} {l : List (List Int)} (h : SlR (rSl rRune 1 ok1) 1 ok2 w A n c l) : Texts w A n c l :=
  h.mono (fun vs x ⟨A', n', c', e, hs⟩ => ⟨A', n', c', e, hs.mono (fun _ _ h => h) (fun _ _ => trivial)⟩) (fun _ _ => trivial)

/-- 'append(nil, make([]T, n)...)' -/
theorem run_grow_nil {P : Program} {t e : TypeId} {sz bytes : Nat} (T : ElemT P t e sz bytes) {tn : TypeId} (htn : P.underlying tn = some (.int .i64)) (ty : TypeId) (n : Nat) (w : World) (h0 : 0 < n) (hn : n ≤ 60000) (hby : bytes ≤ 1000) :
    ∃ cap cur, (Builtin.append_ #[t, tn] ty #[.slice none 0 0, .int .i64 n]).run P w = .ok (.slice (some ⟨w.heap.size, 0, none⟩) n cap) (w.drew.alloc (.cells cur e)) ∧ n ≤ cap ∧ cap ≤ maxLen ∧ cur.size = cap * sz := by
  obtain ⟨ht, ⟨i, z, hi, hz, hsz, hb, hzs⟩, hpos⟩ := T
  have hm : n * i.bytes ≤ 60000 * 1000 := Nat.mul_le_mul hn (by omega)
  have hr := Lib.run_append_nil_zeros (P := P) w t tn ty e i z .i64 .i64 ht htn hi hz n h0 (by omega) (by omega) (by omega)
  refine ⟨_, _, hr, grownCap_ge w n 0 e, grownCap_le_maxLen w n 0 e (by unfold maxLen; omega), ?_⟩
  have := grownCap_ge w n 0 e
  rw [Array.size_append, size_zeroCells, size_zeroCells, hzs, ← Nat.add_mul]
  congr 1; omega

/-- a block that is not the row's own is none of it behind an append either -/
theorem own_ne {v v' : Value} {H b : Nat} (hat : v'.ownBlock = v.ownBlock ∨ v'.ownBlock = some H) (h1 : v.ownBlock ≠ some b) (h2 : b ≠ H) : v'.ownBlock ≠ some b := by
  rcases hat with e | e <;> rw [e]
  · exact h1
  · intro h; exact h2 (Option.some.inj h).symm
theorem OwnR.drewN {α : Type} {R : World → List Value → α → Prop} {e : TypeId} {sz base : Nat} {w : World} {v : Value} {l : List α} (h : OwnR R e sz base w v l) (hk : KeepX R) (n : Nat) : OwnR R e sz base (w.drewN n) v l := by
  obtain ⟨xs, ho, he⟩ := h
  refine ⟨xs, ho, ?_⟩
  clear ho
  induction l generalizing xs with
  | nil => exact he
  | cons x l ih =>
    obtain ⟨vs, r, e1, h1, h2, h3⟩ := he
    exact ⟨vs, r, e1, h1, hk _ _ _ _ ((Ext.refl w).drewN n) h2, ih r h3⟩
/-- a cell elsewhere is as it was behind an append -/
theorem far_cell {w w' : World} {v : Value} {b off : Nat} {u : Value} (hg : w.grownBy w' v.ownBlock) (h : w.cell? ⟨b, off, none⟩ = some u) (hne : v.ownBlock ≠ some b) : w'.cell? ⟨b, off, none⟩ = some u :=
  (hg.cell_far ⟨b, off, none⟩ (World.block_lt_of_cell? w _ h) (Ne.symm hne)).trans h

/-! ### append, where little is appended -/
section
variable {P : Program} {α : Type} {R : World → List Value → α → Prop} {e : TypeId} {sz base : Nat} {w : World} {v : Value} {l : List α}
theorem small_bytes {a bytes : Nat} (h : a ≤ 60000) (hb : bytes ≤ 1000) : a * bytes ≤ 140737488355328 := by
  have : a * bytes ≤ 60000 * 1000 := Nat.mul_le_mul h hb
  omega
theorem small_len {a : Nat} (h : a ≤ 60000) : a ≤ maxLen := by unfold maxLen; omega
theorem wpList_appS {t : TypeId} {bytes : Nat} (T : ElemT P t e sz bytes) (hby : bytes ≤ 1000) {ops : Array Oper} {rest : List Oper} {o : Oper} {a : Act} {Q : Exit → Act → World → Prop} (hgd : o.guard = none) (s x : Operand)
    (ho : o.op = .call { callee := .builtin .append, args := #[s, x], argTypes := #[t, t] }) (hs : a.eval s = v) (hown : OwnR R e sz base w v l) {A : Option Addr} {m c : Nat} (hx : a.eval x = .slice A m c) {l2 : List α} {R2 : World → List Value → α → Prop} {ok2 : Nat → Prop}
    (hsrc : SlR R2 sz ok2 w A m c l2) (hR : ∀ vs x, R2 w vs x → R w vs x) (one : One R) {okk : Nat → Prop} (hk : Keep R okk) (hok : ∀ g, v.ownBlock = some g → ¬ okk g)
    (hb : l.length + m ≤ 60000) (hbase : base ≤ w.heap.size)
    (h : ∀ v' w', OwnR R e sz base w' v' (l ++ l2) → w.grownBy w' v.ownBlock → (v'.ownBlock = v.ownBlock ∨ v'.ownBlock = some w.heap.size) → wpList P ops Q rest (a.put o.dst v') w') : wpList P ops Q (o :: rest) a w :=
  wpList_app T hgd s x ho hs hown hx hsrc hR one hk hok (small_bytes hb hby) (small_len hb) hbase h
theorem step_appS {t : TypeId} {bytes : Nat} (T : ElemT P t e sz bytes) (hby : bytes ≤ 1000) {ops : Array Oper} {o : Oper} {a : Act} {K : Act → World → Prop} {Q : Exit → Act → World → Prop} {E : Prop} (hgd : o.guard = none) (s x : Operand)
    (ho : o.op = .call { callee := .builtin .append, args := #[s, x], argTypes := #[t, t] }) (hs : a.eval s = v) (hown : OwnR R e sz base w v l) {A : Option Addr} {m c : Nat} (hx : a.eval x = .slice A m c) {l2 : List α} {R2 : World → List Value → α → Prop} {ok2 : Nat → Prop}
    (hsrc : SlR R2 sz ok2 w A m c l2) (hR : ∀ vs x, R2 w vs x → R w vs x) (one : One R) {okk : Nat → Prop} (hk : Keep R okk) (hok : ∀ g, v.ownBlock = some g → ¬ okk g)
    (hb : l.length + m ≤ 60000) (hbase : base ≤ w.heap.size)
    (h : ∀ v' w', OwnR R e sz base w' v' (l ++ l2) → w.grownBy w' v.ownBlock → (v'.ownBlock = v.ownBlock ∨ v'.ownBlock = some w.heap.size) → K (a.put o.dst v') w') :
    if Region.wanted o (yielded ops a.tmps) = true then Oper.wp P o a w K Q else E :=
  step_app T hgd s x ho hs hown hx hsrc hR one hk hok (small_bytes hb hby) (small_len hb) hbase h
/-- '[]T{}' -/
theorem OwnR.empty (R : World → List Value → α → Prop) (e : TypeId) (sz base : Nat) (w : World) (hb : base ≤ w.heap.size) :
    OwnR R e sz base (w.alloc (.cells #[] e)) (.slice (some ⟨w.heap.size, 0, none⟩) 0 0) [] := OwnR.made hb (by unfold maxLen; omega) (by simp)
end

end Go.Proofs.Ytbcmfebfcoedkaa
