/- Appending onto a slice whose capacity is its length. No program in sight. -/
import Derived.Test.YtpnflnocmekpnaaG8
import Derived.ArgAppend
namespace Go.Proofs.Ytpnflnocmekpnaa
open Go.RowKit
set_option linter.unusedVariables false
set_option linter.unusedSimpArgs false

section
variable {P : Program} {w : World} {t e : TypeId} {bytes : Nat}
theorem wpList_appFull (T : ElemT P t e 1 bytes) (hby : bytes ≤ 1000) {ops : Array Oper} {rest : List Oper} {o : Oper} {a : Act} {Q : Exit → Act → World → Prop} (hgd : o.guard = none) (s x : Operand)
    (ho : o.op = .call { callee := .builtin .append, args := #[s, x], argTypes := #[t, t] }) {A B : Option Addr} {n m c : Nat} (hs : a.eval s = .slice A n n) (hx : a.eval x = .slice B m c)
    {l l2 : List Int} (h1 : Runes w A n n l) (h2 : Runes w B m c l2) (hA : A = none → n = 0) (hb : n + m ≤ 60000)
    (h : ∀ A' c' w', Runes w' A' (n + m) c' (l ++ l2) → Ext w w' → wpList P ops Q rest (a.put o.dst (.slice A' (n + m) c')) w') : wpList P ops Q (o :: rest) a w := by
  have hl1 := h1.len; have hl2 := h2.len
  have T' := T
  obtain ⟨ht, ⟨i, z, hi, hz, hsz, hbi, hzs⟩, hpos⟩ := T'
  by_cases hm : m = 0
  · subst hm
    obtain rfl : l2 = [] := List.eq_nil_of_length_eq_zero hl2
    have hl : ∀ (x : Addr), (loadCells x 0).run P w = .ok #[] w := fun x => by simpa using run_loadCells_list (P := P) w x [] (by simp)
    have hrun : (Builtin.append_ #[t, t] o.type #[.slice A n n, .slice B 0 c]).run P w = .ok (.slice A n n) w := by
      cases A with
      | none =>
        obtain rfl := hA rfl
        cases B <;> simp [Builtin.append_, run_underlying ht, sizeOf, typeInfo, hi, Builtin.lenOf, Builtin.firstCells, storeCells, hl]
      | some ad => cases B <;> simp [Builtin.append_, run_underlying ht, sizeOf, typeInfo, hi, Builtin.lenOf, Builtin.firstCells, storeCells, hl]
    refine wpList_plain hgd fun K hK => ?_
    unfold Oper.wp execOp
    simp only [ho, resolve, invoke, builtin, Sem.run_bind, Sem.run_pure, Result.andThen_ok, List.map_toArray, List.map_cons, List.map_nil, hs, hx, hrun]
    exact hK _ _ (h A n w (by simpa using h1) (Ext.refl w))
  · obtain ⟨ad, news, rfl, hnl, hne, hnc⟩ := h2.news (by omega)
    obtain ⟨olds, holen, hoe, hoc⟩ : ∃ olds, olds.length = n * 1 ∧ Enc rRune 1 w olds l ∧ ∀ b, A = some b → ∀ j u, olds[j]? = some u → w.cell? (b.add j) = some u := by
      by_cases hn : n = 0
      · subst hn
        obtain rfl : l = [] := List.eq_nil_of_length_eq_zero hl1
        exact ⟨[], rfl, rfl, fun b _ j u hu => by simp at hu⟩
      · obtain ⟨ad', news', e1, k1, k2, k3⟩ := h1.news (by omega)
        exact ⟨news', k1, k2, fun b hb' => by rw [e1] at hb'; cases hb'; exact k3⟩
    refine wpList_append_grows w hgd s x t ho e i z 1 bytes ht hi hz hsz hbi hzs hpos A n n olds hs (fun h0 => ⟨hA h0, hA h0⟩) holen hoc ad m c news hx hnl hnc (hne.one one_rune) (by omega) (by unfold maxLen; omega) (small_bytes hb hby) ?_
    intro v' w' hown hg
    have ho' : OwnR rRune e 1 w.heap.size w' v' (l ++ l2) := ⟨olds ++ news, by rw [List.length_append, hl1, hl2]; exact hown, (hoe.keep (keep_rune bot) (fun _ hb _ => absurd hb id)).append (hne.keep (keep_rune bot) (fun _ hb _ => absurd hb id))⟩
    obtain ⟨A', c', rfl, s'⟩ := ho'.top
    have hlen : (l ++ l2).length = n + m := by rw [List.length_append, hl1, hl2]
    rw [hlen] at s' ⊢
    exact h A' c' w' s' ((Ext.refl w).grown hg (fun k hk => by cases hk))
theorem run_cut_hm {sz : Nat} (T : ElemT P t e sz bytes) (A : Option Addr) (n c : Nat) (i : Int) (h : Nat) (ei : i = h) (hh : h ≤ c) (W : World) :
    (Instr.sliceAt t (.slice A n c) none (some (.int .i64 i)) (some (.int .i64 i))).run P W = .ok (.slice A h h) W := by
  subst ei
  rw [run_sliceAt_slice (h := (elem_of T).1), run_slice_hm (ht := (elem_of T).1) (h0 := by omega) (h2 := by omega) (h3 := by omega), sizeOf_of T]
  simp [sliced, Result.andThen, Addr.add]
theorem full_take {A : Option Addr} {n c k : Nat} {l : List Int} (h : Runes w A n c l) (hk : k ≤ n) : Runes w A k k (l.take k) ∧ (A = none → k = 0) :=
  ⟨⟨(h.take hk).len, Nat.le_refl _, by have := h.max; have := h.cap; omega, (h.take hk).at_⟩, fun hA => by
    by_cases h0 : k = 0
    · exact h0
    · obtain ⟨x, hx⟩ := h.idx (k := 0) (by omega)
      obtain ⟨_, _, e, _⟩ := h.rune hx
      rw [hA] at e; cases e⟩
end

end Go.Proofs.Ytpnflnocmekpnaa
