/- Maps that a call makes: what is stored, what is found. -/
import Derived.Test.YtbcmfebfcoedkaaZ15
import Derived.Maps.Own
import Derived.Maps.OwnOps
import Derived.WideKeyPair
import Derived.DeepKeys4
namespace Go.Proofs.Ytbcmfebfcoedkaa
open Go.RowKit Go.Maps Go.WideMaps Go.ChangeMaps
set_option linter.unusedVariables false
set_option linter.unusedSimpArgs false

/-- block b is a map of these entries, in their order -/
def MapAt (w : World) (b : Nat) (kv : List (Value × Value)) : Prop := ∃ es clock, w.heap[b]? = some (.map es clock) ∧ es.toList.map (fun e => (e.key, e.val)) = kv
theorem MapAt.ext {w w' : World} {b : Nat} {kv : List (Value × Value)} (h : MapAt w b kv) (e : Ext w w') : MapAt w' b kv := by
  obtain ⟨es, c, h1, h2⟩ := h
  have hb : b < w.heap.size := (Array.getElem?_eq_some_iff.1 h1).1
  exact ⟨es, c, (e.block hb).trans h1, h2⟩
theorem MapAt.made (w : World) : MapAt (w.alloc (.map #[] 0)) w.heap.size [] := ⟨#[], 0, heap_alloc_new w _, rfl⟩
theorem MapAt.lt {w : World} {b : Nat} {kv : List (Value × Value)} (h : MapAt w b kv) : b < w.heap.size := by
  obtain ⟨es, c, h1, h2⟩ := h
  exact (Array.getElem?_eq_some_iff.1 h1).1
theorem MapAt.far {w w' : World} {b : Nat} {kv : List (Value × Value)} (h : MapAt w b kv) {r : Option Nat} (hg : w.grownBy w' r) (hr : r ≠ some b) : MapAt w' b kv := by
  have hb := h.lt
  obtain ⟨es, c, h1, h2⟩ := h
  exact ⟨es, c, (hg.block b hb (fun e => hr e.symm)).trans h1, h2⟩

section
variable {P : Program} {k e t : TypeId} {w : World} {b : Nat} {kv : List (Value × Value)} {key : Value} {kl : Lit}
theorem MapAt.keys {es : Array MapEntry} (h2 : es.toList.map (fun e => (e.key, e.val)) = kv) (hk : ∀ p ∈ kv, ∃ l, keyOf P k p.1 = some l) : ∀ x ∈ es.toList, ∃ l, keyOf P k x.key = some l :=
  fun x hx => hk (x.key, x.val) (by rw [← h2]; exact List.mem_map.2 ⟨x, hx, rfl⟩)
/-- 'v, ok := m[k]' -/
theorem MapAt.look (K : Keyed P k) (ht : P.underlying t = some (.map k e)) {z : Value} (hz : ∀ w, (zeroValue e).run P w = .ok z w) (h : MapAt w b kv) (hk : ∀ p ∈ kv, ∃ l, keyOf P k p.1 = some l) (hkey : keyOf P k key = some kl) :
    ((∀ p ∈ kv, p.1 ≠ key) ∧ (Instr.lookup t (.map (some b)) key true).run P w = .ok (.tuple #[z, .bool false]) w) ∨
    ∃ p ∈ kv, p.1 = key ∧ (Instr.lookup t (.map (some b)) key true).run P w = .ok (.tuple #[p.2, .bool true]) w := by
  obtain ⟨es, clock, hb, h2⟩ := h
  rcases K.find w hkey es.toList (MapAt.keys h2 hk) with ⟨h1, h3⟩ | ⟨j, e0, h1, h3, h4⟩
  · refine .inl ⟨fun p hp => ?_, ?_⟩
    · rw [← h2] at hp
      obtain ⟨x, hx, rfl⟩ := List.mem_map.1 hp
      exact h3 x hx
    · simp [Instr.lookup, run_underlying ht, MapKept.run_getObj_map hb, K.check w _ hkey, h1, hz, Result.andThen]
  · refine .inr ⟨(e0.key, e0.val), ?_, h4, ?_⟩
    · rw [← h2]; exact List.mem_map.2 ⟨e0, List.mem_of_getElem? h3, rfl⟩
    · simp [Instr.lookup, run_underlying ht, MapKept.run_getObj_map hb, K.check w _ hkey, h1, Result.andThen]
/-- 'm[k] = v' at a key that is not there -/
theorem MapAt.store (K : Keyed P k) (ht : P.underlying t = some (.map k e)) (h : MapAt w b kv) (hk : ∀ p ∈ kv, ∃ l, keyOf P k p.1 = some l) (hkey : keyOf P k key = some kl) (hnew : ∀ p ∈ kv, p.1 ≠ key) (val : Value) :
    ∃ w', (Instr.mapUpdate t (.map (some b)) key val).run P w = .ok () w' ∧ MapAt w' b (kv ++ [(key, val)]) ∧ w.grownBy w' (some b) := by
  obtain ⟨es, clock, hb, h2⟩ := h
  have hlt : b < w.heap.size := (Array.getElem?_eq_some_iff.1 hb).1
  rcases K.find w hkey es.toList (MapAt.keys h2 hk) with ⟨h1, h3⟩ | ⟨j, e0, h1, h3, h4⟩
  · refine ⟨setBlock w b (.map (es.push ⟨key, val, clock⟩) (clock + 1)), ?_, ⟨_, _, heap_setBlock_same hb _, ?_⟩, ⟨rfl, rfl, rfl, by simp [setBlock], fun i _ hi => heap_setBlock_other hb _ (fun e1 => hi (by rw [e1]))⟩⟩
    · simp [Instr.mapUpdate, run_underlying ht, MapKept.run_getObj_map hb, K.check w false hkey, h1, MapKept.run_setObj_map _ hb, Result.andThen, setBlock]
    · simp [h2]
  · exact absurd h4 (hnew (e0.key, e0.val) (by rw [← h2]; exact List.mem_map.2 ⟨e0, List.mem_of_getElem? h3, rfl⟩))

theorem wpList_store {ops : Array Oper} {rest : List Oper} {o : Oper} {a : Act} {Q : Exit → Act → World → Prop} (hg : o.guard = none) (m x v : Operand) (hop : o.op = Op.mapUpdate t m x v)
    (K : Keyed P k) (ht : P.underlying t = some (.map k e)) (hm : a.eval m = .map (some b)) (h : MapAt w b kv) (hk : ∀ p ∈ kv, ∃ l, keyOf P k p.1 = some l) (key val : Value) (kl : Lit) (hx : a.eval x = key) (hv : a.eval v = val)
    (hkey : keyOf P k key = some kl) (hnew : ∀ p ∈ kv, p.1 ≠ key)
    (hK : ∀ w', MapAt w' b (kv ++ [(key, val)]) → w.grownBy w' (some b) → wpList P ops Q rest (a.put o.dst undef) w') : wpList P ops Q (o :: rest) a w := by
  refine wpList_plain hg fun K' hK' => ?_
  obtain ⟨w', hrun, r1, r2⟩ := h.store K ht hk hkey hnew val
  unfold Oper.wp
  simp [execOp, hop, hm, hx, hv, hrun, Result.andThen]
  exact hK' _ _ (hK w' r1 r2)
end

/-! ### the two maps -/
def vP (p : Pr) : Value := .agg #[.int .i32 p.base, .int .i32 p.mark, .int .i32 p.whole]
def kvA (l : List Pr) : List (Value × Value) := l.map fun p => (.int .i32 p.whole, vP p)
def kvT (l : List Pr) : List (Value × Value) := l.map fun p => (.agg #[.int .i32 p.base, .int .i32 p.mark], .int .i32 p.whole)
theorem wf32 {a : Int} (h : i32 a) : (Lit.int .i32 a).wf = true := by
  have := h.1; have := h.2
  have m1 : IntKind.i32.min = -2147483648 := rfl
  have m2 : IntKind.i32.max = 2147483647 := rfl
  simp [Lit.wf, m1, m2]
  first | omega | (constructor <;> omega)
theorem lawA : Keyed Try.prog 21 := int_keyed Try.underlying21
theorem arrT : ArrKey Try.prog 63 21 2 := ⟨Try.underlying63, by kernel_rfl, by kernel_rfl, by kernel_rfl⟩
theorem wideT : (match Try.prog.underlying 63 with | some (.array _ _) | some (.struct _) => true | _ => false) = true := by rw [Try.underlying63]
theorem lawT : Keyed Try.prog 63 := Keyed.of_law (deep_law_laid laidOut (m := 2) (by omega) (of_decide_eq_true (by kernel_rfl)) (by kernel_rfl) wideT)
theorem keyA {a : Int} (h : i32 a) : keyOf Try.prog 21 (.int .i32 a) = some (.int .i32 a) := keyOf_int_mk Try.underlying21 (wf32 h)
theorem keyT {a b : Int} (h : i32 a) (h' : i32 b) : keyOf Try.prog 63 (.agg #[.int .i32 a, .int .i32 b]) = some (.string (keyBytes [.int .i32 a, .int .i32 b])) :=
  keyOf_pair arrT Try.underlying21 (by exact ⟨Try.prog.types.size - 1, by have : 0 < Try.prog.types.size := of_decide_eq_true (by kernel_rfl); omega⟩) (wf32 h) (wf32 h')
theorem keysA {l : List Pr} (h : ∀ p ∈ l, p ∈ pairsL) : ∀ p ∈ kvA l, ∃ x, keyOf Try.prog 21 p.1 = some x := fun p hp => by
  obtain ⟨q, hq, rfl⟩ := List.mem_map.1 hp
  exact ⟨_, keyA (pairs_i32 (h q hq)).2.2⟩
theorem keysT {l : List Pr} (h : ∀ p ∈ l, p ∈ pairsL) : ∀ p ∈ kvT l, ∃ x, keyOf Try.prog 63 p.1 = some x := fun p hp => by
  obtain ⟨q, hq, rfl⟩ := List.mem_map.1 hp
  exact ⟨_, keyT (pairs_i32 (h q hq)).1 (pairs_i32 (h q hq)).2.1⟩

end Go.Proofs.Ytbcmfebfcoedkaa
