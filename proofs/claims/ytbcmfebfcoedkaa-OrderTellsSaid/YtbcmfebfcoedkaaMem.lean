/- Memory words: slices that read as lists, worlds that only grow. No program in sight. -/
import Derived.WalkKit
import Derived.WalkSpells
import Derived.WalkLawsBesides
import Derived.Deep.QuietTactic
import Derived.BigQuiet
import Derived.Lib.Hide
import Derived.Deep.AppendLies
import Derived.Deep.Slices
import Derived.Lib.AppendZeros
namespace Go.Proofs.Ytbcmfebfcoedkaa
open Go.RowKit
set_option linter.unusedVariables false

/-- w' is w with more behind it: nothing that was there has turned. -/
def Ext (w w' : World) : Prop := Below w.heap.size w w'

theorem Ext.below {w w' : World} (h : Ext w w') : Below w.heap.size w w' := h
theorem Ext.refl (w : World) : Ext w w := Below.refl _ _
theorem Ext.trans {a b c : World} (h : Ext a b) (k : Ext b c) : Ext a c := Below.trans h (Below.mono k h.size)
theorem Ext.size {w w' : World} (h : Ext w w') : w.heap.size ≤ w'.heap.size := Below.size h
theorem Ext.alloc {a w : World} (h : Ext a w) (o : Obj) : Ext a (w.alloc o) := Below.alloc h h.size o
theorem Ext.drew {a w : World} (h : Ext a w) : Ext a w.drew := Below.drew h
theorem below_drewN {B : Nat} {a w : World} (h : Below B a w) (n : Nat) : Below B a (w.drewN n) := ⟨h.os, h.tape, h.output, h.size, h.block⟩
theorem Ext.drewN {a w : World} (h : Ext a w) (n : Nat) : Ext a (w.drewN n) := below_drewN h n
theorem Ext.setCell {a w : World} (h : Ext a w) {p : Addr} (hp : a.heap.size ≤ p.block) (u : Value) : Ext a (w.setCell p u) := Below.setCell h hp u
theorem Ext.grown {a w w' : World} {row : Option Nat} (h : Ext a w) (hg : w.grownBy w' row) (hr : ∀ k, row = some k → a.heap.size ≤ k) : Ext a w' := Below.grown h hg h.size hr
theorem Ext.cell {w w' : World} (h : Ext w w') {a : Addr} {v : Value} (hc : w.cell? a = some v) : w'.cell? a = some v :=
  (Below.cell h (World.block_lt_of_cell? w a hc)).trans hc
theorem Ext.cell' {w w' : World} (h : Ext w w') {a : Addr} (hb : a.block < w.heap.size) : w'.cell? a = w.cell? a := Below.cell h hb
theorem Ext.frozen {w w' : World} (h : Ext w w') {a : Addr} (hb : a.block < w.heap.size) : w'.frozen? a = w.frozen? a := Below.frozen h hb
theorem Ext.block {w w' : World} (h : Ext w w') {b : Nat} (hb : b < w.heap.size) : w'.heap[b]? = w.heap[b]? := Below.block h b hb

/-- the blocks of which ok holds are as they were -/
def Agree (ok : Nat → Prop) (w w' : World) : Prop := ∀ b, ok b → b < w.heap.size → w'.heap[b]? = w.heap[b]?

theorem Ext.agree {w w' : World} (h : Ext w w') (ok : Nat → Prop) : Agree ok w w' := fun b _ hb => h.block hb
theorem Agree.cell {ok : Nat → Prop} {w w' : World} (h : Agree ok w w') {a : Addr} {v : Value} (ho : ok a.block) (hc : w.cell? a = some v) : w'.cell? a = some v :=
  (World.cell?_of_block (h a.block ho (World.block_lt_of_cell? w a hc))).trans hc
theorem Agree.refl (ok : Nat → Prop) (w : World) : Agree ok w w := fun _ _ _ => rfl
theorem grown_agree {w w' : World} {row : Option Nat} (hg : w.grownBy w' row) {ok : Nat → Prop} (h : ∀ g, row = some g → ¬ ok g) : Agree ok w w' :=
  fun b ho hb => hg.block b hb (fun e => h b e.symm ho)

/-- every block -/
def top : Nat → Prop := fun _ => True

/-- A slice that reads as a list: R tells an element's cells. -/
structure SlR {α : Type} (R : World → List Value → α → Prop) (sz : Nat) (ok : Nat → Prop) (w : World) (A : Option Addr) (n c : Nat) (l : List α) : Prop where
  len : l.length = n
  cap : n ≤ c
  max : c ≤ maxLen
  at_ : ∀ k x, l[k]? = some x → ∃ b off vs, A = some ⟨b, off, none⟩ ∧ ok b ∧ vs.length = sz ∧ R w vs x ∧ ∀ j u, vs[j]? = some u → w.cell? ⟨b, off + k * sz + j, none⟩ = some u

/-- R holds on in worlds that agree on the blocks of ok. -/
def Keep {α : Type} (R : World → List Value → α → Prop) (ok : Nat → Prop) : Prop := ∀ w w' vs x, Agree ok w w' → R w vs x → R w' vs x

section
variable {α : Type} {R : World → List Value → α → Prop} {sz : Nat} {ok : Nat → Prop} {w w' : World} {A : Option Addr} {n c : Nat} {l : List α}

theorem SlR.keep (hk : Keep R ok) (h : SlR R sz ok w A n c l) (ha : Agree ok w w') : SlR R sz ok w' A n c l :=
  ⟨h.len, h.cap, h.max, fun k x hx => by
    obtain ⟨b, off, vs, e, ho, hl, hr, hc⟩ := h.at_ k x hx
    exact ⟨b, off, vs, e, ho, hl, hk _ _ _ _ ha hr, fun j u hu => ha.cell (a := ⟨b, off + k * sz + j, none⟩) ho (hc j u hu)⟩⟩

theorem SlR.ext (hk : Keep R ok) (h : SlR R sz ok w A n c l) (ha : Ext w w') : SlR R sz ok w' A n c l := h.keep hk (ha.agree ok)

theorem SlR.mono {R' : World → List Value → α → Prop} {ok' : Nat → Prop} (h : SlR R sz ok w A n c l) (hR : ∀ vs x, R w vs x → R' w vs x) (ho : ∀ b, ok b → ok' b) : SlR R' sz ok' w A n c l :=
  ⟨h.len, h.cap, h.max, fun k x hx => by
    obtain ⟨b, off, vs, e, ho', hl, hr, hc⟩ := h.at_ k x hx
    exact ⟨b, off, vs, e, ho _ ho', hl, hR _ _ hr, hc⟩⟩

/-- its blocks are there -/
theorem SlR.lt (hs : 0 < sz) (h : SlR R sz ok w A n c l) : SlR R sz (fun b => ok b ∧ b < w.heap.size) w A n c l :=
  ⟨h.len, h.cap, h.max, fun k x hx => by
    obtain ⟨b, off, vs, e, ho, hl, hr, hc⟩ := h.at_ k x hx
    refine ⟨b, off, vs, e, ⟨ho, ?_⟩, hl, hr, hc⟩
    exact World.block_lt_of_cell? w ⟨b, off + k * sz + 0, none⟩ (hc 0 (vs[0]'(by omega)) (List.getElem?_eq_getElem (by omega)))⟩

theorem SlR.nil (R : World → List Value → α → Prop) (sz : Nat) (ok : Nat → Prop) (w : World) (A : Option Addr) (c : Nat) (hc : c ≤ maxLen) : SlR R sz ok w A 0 c [] :=
  ⟨rfl, Nat.zero_le _, hc, fun k x hx => by simp at hx⟩

theorem addr_add (b o k : Nat) : (⟨b, o, none⟩ : Addr).add k = ⟨b, o + k, none⟩ := by
  unfold Addr.add; split <;> simp_all

/-- 's[lo:hi]' -/
theorem SlR.cut (h : SlR R sz ok w A n c l) {lo hi : Nat} (h1 : lo ≤ hi) (h2 : hi ≤ n) {A' : Option Addr} (hA : lo < n → A' = A.map (·.add (lo * sz))) :
    SlR R sz ok w A' (hi - lo) (c - lo) ((l.take hi).drop lo) := by
  refine ⟨by simp [h.len]; omega, by have := h.cap; omega, by have := h.max; omega, fun k x hx => ?_⟩
  have hlt : lo + k < hi := by
    have := (List.getElem?_eq_some_iff.1 hx).1
    simp [h.len] at this
    omega
  rw [List.getElem?_drop, List.getElem?_take, if_pos hlt] at hx
  obtain ⟨b, off, vs, rfl, ho, hl, hr, hc⟩ := h.at_ _ x hx
  refine ⟨b, off + lo * sz, vs, ?_, ho, hl, hr, fun j u hu => ?_⟩
  · rw [hA (by omega)]; simp [addr_add]
  · have := hc j u hu
    rw [Nat.add_mul, ← Nat.add_assoc] at this
    exact this

theorem SlR.idx (h : SlR R sz ok w A n c l) {k : Nat} (hk : k < n) : ∃ x, l[k]? = some x :=
  ⟨l[k]'(by rw [h.len]; exact hk), List.getElem?_eq_getElem _⟩

end

/-! ### what elements are -/

def i32 (x : Int) : Prop := -2147483648 ≤ x ∧ x ≤ 2147483647
def i64 (x : Int) : Prop := -9223372036854775808 ≤ x ∧ x ≤ 9223372036854775807

def rRune : World → List Value → Int → Prop := fun _ vs x => vs = [.int .i32 x] ∧ i32 x
def rInt : World → List Value → Int → Prop := fun _ vs x => vs = [.int .i64 x] ∧ i64 x
structure Sp where
  lo : Int
  hi : Int
theorem Sp.ext' {a b : Sp} (h1 : a.lo = b.lo) (h2 : a.hi = b.hi) : a = b := by cases a; cases b; simp_all
instance : DecidableEq Sp := fun a b => if h : a.lo = b.lo ∧ a.hi = b.hi then .isTrue (Sp.ext' h.1 h.2) else .isFalse (fun e => h (by rw [e]; exact ⟨rfl, rfl⟩))
instance : Inhabited Sp := ⟨⟨0, 0⟩⟩
def rSpan : World → List Value → Sp → Prop := fun _ vs x => vs = [.int .i32 x.lo, .int .i32 x.hi] ∧ i32 x.lo ∧ i32 x.hi
def rSl {α : Type} (R : World → List Value → α → Prop) (sz : Nat) (ok : Nat → Prop) : World → List Value → List α → Prop :=
  fun w vs l => ∃ A n c, vs = [.slice A n c] ∧ SlR R sz ok w A n c l

theorem keep_rune (ok : Nat → Prop) : Keep rRune ok := fun _ _ _ _ _ h => h
theorem keep_int (ok : Nat → Prop) : Keep rInt ok := fun _ _ _ _ _ h => h
theorem keep_span (ok : Nat → Prop) : Keep rSpan ok := fun _ _ _ _ _ h => h
theorem keep_sl {α : Type} {R : World → List Value → α → Prop} {sz : Nat} {ok : Nat → Prop} (hk : Keep R ok) : Keep (rSl R sz ok) ok :=
  fun _ _ _ _ ha ⟨A, n, c, e, h⟩ => ⟨A, n, c, e, h.keep hk ha⟩

/-- A rule. -/
structure Rule where
  start : Bool
  fin : Bool
  before : List (List Sp)
  source : List (List Sp)
  after : List (List Sp)
  target : List Int
  cursor : Int
instance : Inhabited Rule := ⟨⟨false, false, [], [], [], [], 0⟩⟩

abbrev Runes (w : World) (A : Option Addr) (n c : Nat) (l : List Int) : Prop := SlR rRune 1 top w A n c l
abbrev Ints (w : World) (A : Option Addr) (n c : Nat) (l : List Int) : Prop := SlR rInt 1 top w A n c l
abbrev Spans (w : World) (A : Option Addr) (n c : Nat) (l : List Sp) : Prop := SlR rSpan 2 top w A n c l
abbrev Sets (w : World) (A : Option Addr) (n c : Nat) (l : List (List Sp)) : Prop := SlR (rSl rSpan 2 top) 1 top w A n c l
abbrev Texts (w : World) (A : Option Addr) (n c : Nat) (l : List (List Int)) : Prop := SlR (rSl rRune 1 top) 1 top w A n c l

theorem keep_set : Keep (rSl rSpan 2 top) top := keep_sl (keep_span top)
theorem keep_text : Keep (rSl rRune 1 top) top := keep_sl (keep_rune top)

/-- A rule's seven values. -/
structure RuleV (w : World) (s f : Bool) (A1 : Option Addr) (n1 c1 : Nat) (A2 : Option Addr) (n2 c2 : Nat) (A3 : Option Addr) (n3 c3 : Nat) (A4 : Option Addr) (n4 c4 : Nat) (k : Int) (r : Rule) : Prop where
  start : r.start = s
  fin : r.fin = f
  before : Sets w A1 n1 c1 r.before
  source : Sets w A2 n2 c2 r.source
  after : Sets w A3 n3 c3 r.after
  target : Runes w A4 n4 c4 r.target
  cursor : r.cursor = k
  bound : i64 k

theorem RuleV.ext {w w' : World} {s f : Bool} {A1 : Option Addr} {n1 c1 : Nat} {A2 : Option Addr} {n2 c2 : Nat} {A3 : Option Addr} {n3 c3 : Nat} {A4 : Option Addr} {n4 c4 : Nat} {k : Int} {r : Rule}
    (h : RuleV w s f A1 n1 c1 A2 n2 c2 A3 n3 c3 A4 n4 c4 k r) (ha : Agree top w w') : RuleV w' s f A1 n1 c1 A2 n2 c2 A3 n3 c3 A4 n4 c4 k r :=
  ⟨h.start, h.fin, h.before.keep keep_set ha, h.source.keep keep_set ha, h.after.keep keep_set ha, h.target.keep (keep_rune _) ha, h.cursor, h.bound⟩

def rRule : World → List Value → Rule → Prop := fun w vs r =>
  ∃ s f A1 n1 c1 A2 n2 c2 A3 n3 c3 A4 n4 c4 k, vs = [.bool s, .bool f, .slice A1 n1 c1, .slice A2 n2 c2, .slice A3 n3 c3, .slice A4 n4 c4, .int .i64 k] ∧ RuleV w s f A1 n1 c1 A2 n2 c2 A3 n3 c3 A4 n4 c4 k r

theorem keep_rule : Keep rRule top := fun w w' vs r ha ⟨s, f, A1, n1, c1, A2, n2, c2, A3, n3, c3, A4, n4, c4, k, e, h⟩ => ⟨s, f, A1, n1, c1, A2, n2, c2, A3, n3, c3, A4, n4, c4, k, e, h.ext ha⟩

abbrev Rules (w : World) (A : Option Addr) (n c : Nat) (l : List Rule) : Prop := SlR rRule 7 top w A n c l

theorem Runes.ext {w w' : World} {A : Option Addr} {n c : Nat} {l : List Int} (h : Runes w A n c l) (e : Ext w w') : Runes w' A n c l := SlR.ext (keep_rune _) h e
theorem Spans.ext {w w' : World} {A : Option Addr} {n c : Nat} {l : List Sp} (h : Spans w A n c l) (e : Ext w w') : Spans w' A n c l := SlR.ext (keep_span _) h e
theorem Sets.ext {w w' : World} {A : Option Addr} {n c : Nat} {l : List (List Sp)} (h : Sets w A n c l) (e : Ext w w') : Sets w' A n c l := SlR.ext keep_set h e
theorem Texts.ext {w w' : World} {A : Option Addr} {n c : Nat} {l : List (List Int)} (h : Texts w A n c l) (e : Ext w w') : Texts w' A n c l := SlR.ext keep_text h e
theorem Rules.ext {w w' : World} {A : Option Addr} {n c : Nat} {l : List Rule} (h : Rules w A n c l) (e : Ext w w') : Rules w' A n c l := SlR.ext keep_rule h e

section
variable {w : World} {A : Option Addr} {n c k : Nat} {ok : Nat → Prop}

theorem SlR.rune {l : List Int} {x : Int} (h : SlR rRune 1 ok w A n c l) (hx : l[k]? = some x) :
    ∃ b off, A = some ⟨b, off, none⟩ ∧ (b < w.heap.size ∧ b ≠ w.heap.size) ∧ w.cell? ⟨b, off + k, none⟩ = some (.int .i32 x) ∧ -2147483648 ≤ x ∧ x ≤ 2147483647 := by
  obtain ⟨b, off, vs, e, ho, _, ⟨rfl, hb⟩, hc⟩ := h.at_ k x hx
  have h0 := hc 0 _ rfl
  have hlt : b < w.heap.size := World.block_lt_of_cell? w _ h0
  exact ⟨b, off, e, ⟨hlt, by omega⟩, by simpa using h0, hb.1, hb.2⟩

theorem SlR.int {l : List Int} {x : Int} (h : SlR rInt 1 ok w A n c l) (hx : l[k]? = some x) :
    ∃ b off, A = some ⟨b, off, none⟩ ∧ (b < w.heap.size ∧ b ≠ w.heap.size) ∧ w.cell? ⟨b, off + k, none⟩ = some (.int .i64 x) ∧ i64 x := by
  obtain ⟨b, off, vs, e, ho, _, ⟨rfl, hb⟩, hc⟩ := h.at_ k x hx
  have h0 := hc 0 _ rfl
  have hlt : b < w.heap.size := World.block_lt_of_cell? w _ h0
  exact ⟨b, off, e, ⟨hlt, by omega⟩, by simpa using h0, hb⟩

theorem SlR.span {l : List Sp} {x : Sp} (h : SlR rSpan 2 ok w A n c l) (hx : l[k]? = some x) :
    ∃ b off, A = some ⟨b, off, none⟩ ∧ (b < w.heap.size ∧ b ≠ w.heap.size) ∧ w.cell? ⟨b, off + k * 2, none⟩ = some (.int .i32 x.lo) ∧ w.cell? ⟨b, off + k * 2 + 1, none⟩ = some (.int .i32 x.hi) ∧
      (-2147483648 ≤ x.lo ∧ x.lo ≤ 2147483647) ∧ (-2147483648 ≤ x.hi ∧ x.hi ≤ 2147483647) := by
  obtain ⟨b, off, vs, e, ho, _, ⟨rfl, hb, hb'⟩, hc⟩ := h.at_ k x hx
  have h0 := hc 0 _ rfl
  have hlt : b < w.heap.size := World.block_lt_of_cell? w _ h0
  exact ⟨b, off, e, ⟨hlt, by omega⟩, by simpa using h0, by simpa using hc 1 _ rfl, hb, hb'⟩

theorem SlR.sl {α : Type} {R : World → List Value → α → Prop} {sz : Nat} {ok' : Nat → Prop} {l : List (List α)} {x : List α} (h : SlR (rSl R sz ok') 1 ok w A n c l) (hx : l[k]? = some x) :
    ∃ b off A' n' c', A = some ⟨b, off, none⟩ ∧ (b < w.heap.size ∧ b ≠ w.heap.size) ∧ w.cell? ⟨b, off + k, none⟩ = some (.slice A' n' c') ∧ SlR R sz ok' w A' n' c' x := by
  obtain ⟨b, off, vs, e, ho, _, ⟨A', n', c', rfl, hb⟩, hc⟩ := h.at_ k x hx
  have h0 := hc 0 _ rfl
  have hlt : b < w.heap.size := World.block_lt_of_cell? w _ h0
  exact ⟨b, off, A', n', c', e, ⟨hlt, by omega⟩, by simpa using h0, hb⟩

theorem SlR.rule {l : List Rule} {r : Rule} (h : SlR rRule 7 ok w A n c l) (hx : l[k]? = some r) :
    ∃ b off s f A1 n1 c1 A2 n2 c2 A3 n3 c3 A4 n4 c4 q, A = some ⟨b, off, none⟩ ∧ (b < w.heap.size ∧ b ≠ w.heap.size) ∧ RuleV w s f A1 n1 c1 A2 n2 c2 A3 n3 c3 A4 n4 c4 q r ∧
      w.cell? ⟨b, off + k * 7, none⟩ = some (.bool s) ∧ w.cell? ⟨b, off + k * 7 + 1, none⟩ = some (.bool f) ∧ w.cell? ⟨b, off + k * 7 + 2, none⟩ = some (.slice A1 n1 c1) ∧
      w.cell? ⟨b, off + k * 7 + 3, none⟩ = some (.slice A2 n2 c2) ∧ w.cell? ⟨b, off + k * 7 + 4, none⟩ = some (.slice A3 n3 c3) ∧ w.cell? ⟨b, off + k * 7 + 5, none⟩ = some (.slice A4 n4 c4) ∧
      w.cell? ⟨b, off + k * 7 + 6, none⟩ = some (.int .i64 q) := by
  obtain ⟨b, off, vs, e, ho, _, ⟨s, f, A1, n1, c1, A2, n2, c2, A3, n3, c3, A4, n4, c4, q, rfl, hb⟩, hc⟩ := h.at_ k r hx
  have h0 := hc 0 _ rfl
  have hlt : b < w.heap.size := World.block_lt_of_cell? w _ h0
  exact ⟨b, off, s, f, A1, n1, c1, A2, n2, c2, A3, n3, c3, A4, n4, c4, q, e, ⟨hlt, by omega⟩, hb, by simpa using h0, by simpa using hc 1 _ rfl, by simpa using hc 2 _ rfl, by simpa using hc 3 _ rfl, by simpa using hc 4 _ rfl, by simpa using hc 5 _ rfl, by simpa using hc 6 _ rfl⟩
end

/-- a new block of cells reads as it was laid -/
theorem cell_new (w : World) (cs : Array Value) (t : TypeId) (j : Nat) (u : Value) (h : cs[j]? = some u) : (w.alloc (.cells cs t)).cell? ⟨w.heap.size, j, none⟩ = some u := by
  rw [cell_of_row _ _ j cs t (0, 0) (heap_alloc_new w _)]; exact h

/-- a slice over a new block -/
theorem SlR.fresh {α : Type} {R : World → List Value → α → Prop} {sz : Nat} {w : World} {cs : Array Value} {t : TypeId} {n : Nat} {l : List α} (hl : l.length = n) (hm : n ≤ maxLen)
    (h : ∀ k x, l[k]? = some x → ∃ vs, vs.length = sz ∧ R (w.alloc (.cells cs t)) vs x ∧ ∀ j u, vs[j]? = some u → cs[k * sz + j]? = some u) :
    SlR R sz top (w.alloc (.cells cs t)) (some ⟨w.heap.size, 0, none⟩) n n l :=
  ⟨hl, Nat.le_refl _, hm, fun k x hx => by
    obtain ⟨vs, h1, h2, h3⟩ := h k x hx
    exact ⟨_, 0, vs, rfl, trivial, h1, h2, fun j u hu => by rw [Nat.zero_add]; exact cell_new w cs t _ u (h3 j u hu)⟩⟩

/-- a call through a function value enters that function -/
theorem enters {P : Program} {f : FuncId} {fn : Func} {c : Code} (hf : P.funcs[f]? = some fn) (hname : (fn.name == "runtime.NumGoroutine") = false) (hb : fn.body = some c) :
    ∀ (args : Array Value) (w : World), (callFunc f args).run P w = .ok (.enter f args) w := by
  intro args w
  have h1 : fn.name ≠ "runtime.NumGoroutine" := by simpa using hname
  simp [callFunc, hf, h1, hb, mark]

/-! ### lists -/
theorem take_snoc {α : Type} {l : List α} {k : Nat} {x : α} (h : l[k]? = some x) : l.take (k + 1) = l.take k ++ [x] := by
  rw [List.take_add_one, h]; rfl
theorem take_all {α : Type} {l : List α} {k n : Nat} (hl : l.length = n) (h : n ≤ k) : l.take k = l := List.take_of_length_le (by omega)
theorem lt_of_get {α : Type} {l : List α} {k : Nat} {x : α} (h : l[k]? = some x) : k < l.length := (List.getElem?_eq_some_iff.1 h).1

end Go.Proofs.Ytbcmfebfcoedkaa
