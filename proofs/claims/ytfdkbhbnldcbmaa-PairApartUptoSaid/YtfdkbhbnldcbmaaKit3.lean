/- How long a slice that was read may be, where what is read is small. -/
import Derived.Test.YtfdkbhbnldcbmaaKit
import Derived.JoinedCond
namespace Go.Proofs.Ytfdkbhbnldcbmaa
open Go.ChangeShapes Go.WideShapes Go.ChangeAt Go.RowKit Go.Deep
set_option linter.unusedVariables false

section
variable {H : Type} {enc : TypeId × Value → H} {P : Program} {w : World} {base : Nat} {spare : Nat → Bool} {held : Bool}
theorem bulk_pos (d : DataW H) : 1 ≤ Rows.uptoBulk d := by
  cases d with
  | lit l => cases l <;> simp [Rows.uptoBulk]
  | nil => simp [Rows.uptoBulk]
  | ptr d => simp [Rows.uptoBulk]
  | slice elems spare => simp [Rows.uptoBulk]
  | agg parts => simp [Rows.uptoBulk]
  | iface t d => simp [Rows.uptoBulk]
  | map entries => simp [Rows.uptoBulk]
  | held h => simp [Rows.uptoBulk]
theorem bulk_len (l : List (DataW H)) : l.length ≤ Rows.uptoBulkAll l := by
  induction l with
  | nil => simp [Rows.uptoBulkAll]
  | cons x r ih => have := bulk_pos x; simp only [Rows.uptoBulkAll, List.length_cons]; omega
theorem bulk_mem {d : DataW H} {l : List (DataW H)} (h : d ∈ l) : Rows.uptoBulk d ≤ Rows.uptoBulkAll l := by
  induction l with
  | nil => cases h
  | cons x r ih =>
    simp only [Rows.uptoBulkAll]
    rcases List.mem_cons.1 h with rfl | h
    · omega
    · have := ih h; omega
theorem slice_bulk {t e : TypeId} (ht : P.underlying t = some (.slice e)) {fuel : Nat} {A : Option Addr} {n c : Nat} {d : DataW H} {p : List MemPlace}
    (h : DataW.trod enc P w base spare held fuel t [.slice A n c] = some (d, p)) {l : List (DataW H)} (hk : Rows.uptoSmall H l = true) (hd : d ∈ l) : n ≤ 1048576 := by
  have hb := bulk_mem hd
  have hs : Rows.uptoBulkAll l ≤ 1048576 := of_decide_eq_true hk
  rcases open_slice ht h with ⟨e1, _⟩ | ⟨a, len, cap, m, n', D, Pl, e1, _, hl, hm, hmm, e2, hi⟩
  · simp only [List.cons.injEq, and_true, Value.slice.injEq] at e1
    rw [e1.2.1]; omega
  · simp only [List.cons.injEq, and_true, Value.slice.injEq] at e1
    obtain ⟨_, rfl, rfl⟩ := e1
    have ed : d = _ := congrArg Prod.fst e2
    subst ed
    have h1 := bulk_len ((List.range n).map D)
    simp only [List.length_map, List.length_range] at h1
    simp only [Rows.uptoBulk] at hb
    omega
end

end Go.Proofs.Ytfdkbhbnldcbmaa
