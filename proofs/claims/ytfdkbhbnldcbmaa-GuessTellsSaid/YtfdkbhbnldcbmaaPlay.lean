/- A play's variable in memory; what plays keep. No program in sight. -/
import Derived.Test.YtfdkbhbnldcbmaaRule
import Derived.Test.YtfdkbhbnldcbmaaCut
import Derived.Test.YtfdkbhbnldcbmaaW9
import Derived.Test.YtfdkbhbnldcbmaaCells
namespace Go.Proofs.Ytfdkbhbnldcbmaa
open Go.RowKit
set_option linter.unusedVariables false
set_option linter.unusedSimpArgs false

theorem agree_set (B o : Nat) (w : World) (u : Value) : Agree (fun b => b ≠ B) w (w.setCell ⟨B, o, none⟩ u) := fun b hb _ => Below.heap_setCell _ _ _ _ hb
theorem Agree.mono {ok ok' : Nat → Prop} {w w' : World} (h : Agree ok w w') (hk : ∀ b, ok' b → ok b) : Agree ok' w w' := fun b hb => h b (hk b hb)
theorem SlR.far {α : Type} {R : World → List Value → α → Prop} {sz : Nat} {ok : Nat → Prop} {w : World} {A : Option Addr} {n c : Nat} {l : List α} {H o : Nat} {u : Value} (h : SlR R sz ok w A n c l) (hk : Keep R ok) (hn : ∀ b, ok b → b ≠ H) :
    SlR R sz ok (w.setCell ⟨H, o, none⟩ u) A n c l := h.keep hk ((agree_set _ _ _ _).mono hn)
/-- a number in a cell -/
def cellN (o : Option Value) : Nat := match o with | some (.int _ q) => q.toNat | _ => 0
theorem cellN_nat {o : Option Value} {n : Nat} (h : o = some (.int .i64 n)) : cellN o = n := by rw [h]; simp [cellN]

/-- A text, steps and puts in a block of their own. -/
structure PlayAt (K B : Nat) (w : World) (A : Option Addr) (m d : Nat) (t : List Int) (s p : Nat) : Prop where
  text : SlR rRune 1 (fun b => b ≠ B ∧ K ≤ b) w A m d t
  c0 : w.cell? ⟨B, 0, none⟩ = some (.slice A m d)
  c1 : w.cell? ⟨B, 1, none⟩ = some (.int .i64 s)
  c2 : w.cell? ⟨B, 2, none⟩ = some (.int .i64 p)

section
variable {K B : Nat} {w w' : World} {A : Option Addr} {m d : Nat} {t : List Int} {s p : Nat}
theorem PlayAt.ext (h : PlayAt K B w A m d t s p) (e : Ext w w') : PlayAt K B w' A m d t s p := ⟨h.text.ext (keep_rune _) e, e.cell h.c0, e.cell h.c1, e.cell h.c2⟩
theorem PlayAt.runes (h : PlayAt K B w A m d t s p) : Runes w A m d t := h.text.mono (fun _ _ h => h) (fun _ _ => trivial)
theorem set_same {b o : Nat} {u v : Value} (h : w.cell? ⟨b, o, none⟩ = some u) : (w.setCell ⟨b, o, none⟩ v).cell? ⟨b, o, none⟩ = some v := World.cell?_setCell_same' _ _ _ (by rw [h]; rfl)
theorem set_other {b o o' : Nat} {u v : Value} (h : w.cell? ⟨b, o, none⟩ = some u) (hn : o ≠ o') : (w.setCell ⟨b, o', none⟩ v).cell? ⟨b, o, none⟩ = some u := by
  rw [World.cell?_setCell_other _ _ _ _ (by intro e; cases e; exact hn rfl)]; exact h
theorem PlayAt.step (h : PlayAt K B w A m d t s p) {x : Int} (hx : x = (s + 1 : Nat)) : PlayAt K B (w.setCell ⟨B, 1, none⟩ (.int .i64 x)) A m d t (s + 1) p :=
  ⟨h.text.keep (keep_rune _) ((agree_set _ _ _ _).mono fun _ h => h.1), set_other h.c0 (by omega), hx ▸ set_same h.c1, set_other h.c2 (by omega)⟩
theorem PlayAt.puts (h : PlayAt K B w A m d t s p) {x : Int} (hx : x = (p + 1 : Nat)) : PlayAt K B (w.setCell ⟨B, 2, none⟩ (.int .i64 x)) A m d t s (p + 1) :=
  ⟨h.text.keep (keep_rune _) ((agree_set _ _ _ _).mono fun _ h => h.1), set_other h.c0 (by omega), set_other h.c1 (by omega), hx ▸ set_same h.c2⟩
theorem PlayAt.turn (h : PlayAt K B w A m d t s p) {A' : Option Addr} {m' d' : Nat} {t' : List Int} (hs : SlR rRune 1 (fun b => b ≠ B ∧ K ≤ b) w A' m' d' t') : PlayAt K B (w.setCell ⟨B, 0, none⟩ (.slice A' m' d')) A' m' d' t' s p :=
  ⟨hs.keep (keep_rune _) ((agree_set _ _ _ _).mono fun _ h => h.1), set_same h.c0, set_other h.c1 (by omega), set_other h.c2 (by omega)⟩
end

/-- what a run hands back -/
def RunR (l : List Rule) (t : List Int) (w' : World) (e : Ending) : Prop :=
  ∃ A n c, e = .returned (.tuple #[.agg #[.slice A n c, .int .i64 (runAll l t).steps, .int .i64 (runAll l t).put], .agg #[.int .i64 (runF l t).1, .int .i64 (runF l t).2]]) ∧ Runes w' A n c (runAll l t).text
theorem RunR.bad {l : List Rule} {t : List Int} {w' : World} {a b : Int} {k : Nat} (ho : runAll l t = ⟨[], 0, 0, a⟩) (hf : runF l t = (a, k)) (hb : b = k) :
    RunR l t w' (.returned (.tuple #[.agg #[.slice none 0 0, .int .i64 0, .int .i64 0], .agg #[.int .i64 a, .int .i64 b]])) :=
  ⟨none, 0, 0, by rw [ho, hf, hb]; rfl, by rw [ho]; exact SlR.nil _ _ _ _ _ _ (by unfold maxLen; omega)⟩
theorem RunR.fine {l : List Rule} {t : List Int} {w' : World} {A : Option Addr} {n c : Nat} {u : List Int} {s p : Nat} (ho : runAll l t = ⟨u, s, p, 0⟩) (hf : runF l t = (0, 0)) (hu : Runes w' A n c u) :
    RunR l t w' (.returned (.tuple #[.agg #[.slice A n c, .int .i64 s, .int .i64 p], .agg #[.int .i64 0, .int .i64 0]])) :=
  ⟨A, n, c, by rw [ho, hf]; rfl, by rw [ho]; exact hu⟩

theorem putAt_len {r : Rule} {t : List Int} {a : Nat} (h : a + r.source.length ≤ t.length) : ((putAt r t a).length : Int) = t.length - r.source.length + r.target.length := by
  unfold putAt
  simp only [List.length_append, List.length_take, List.length_drop]
  omega

theorem idxFrom_mem {α : Type} (p : α → Bool) : ∀ (k : Nat) (l : List α), 0 ≤ idxFrom p k l → ∃ i x, l[i]? = some x ∧ p x = true ∧ idxFrom p k l = (k + i : Nat)
  | k, [], h => by simp [idxFrom] at h
  | k, x :: r, h => by
    unfold idxFrom at h ⊢
    by_cases hp : p x = true
    · rw [if_pos hp]; exact ⟨0, x, rfl, hp, rfl⟩
    · rw [if_neg hp] at h ⊢
      obtain ⟨i, y, h1, h2, h3⟩ := idxFrom_mem p (k + 1) r h
      exact ⟨i + 1, y, h1, h2, by rw [h3]; congr 1; omega⟩
theorem first_mem {l : List Rule} {t : List Int} {a : Int} (h : 0 ≤ first l t a) : ∃ (i : Nat) (r : Rule), l[i]? = some r ∧ here r t a = true ∧ first l t a = i := by
  obtain ⟨i, x, h1, h2, h3⟩ := idxFrom_mem _ 0 l h
  exact ⟨i, x, h1, h2, by unfold first; rw [h3]; congr 1; omega⟩

end Go.Proofs.Ytfdkbhbnldcbmaa
