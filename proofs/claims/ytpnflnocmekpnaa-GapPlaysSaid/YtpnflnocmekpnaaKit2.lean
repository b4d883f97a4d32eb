/- How large a slice that was read may be. -/
import Derived.Test.YtpnflnocmekpnaaKit
import Derived.SizedLaws
namespace Go.Proofs.Ytpnflnocmekpnaa
open Go.ChangeShapes Go.WideShapes Go.ChangeAt Go.RowKit Go.Deep
set_option linter.unusedVariables false

section
variable {H : Type} {enc : TypeId × Value → H} {P : Program} {w : World} {base : Nat} {spare : Nat → Bool} {held : Bool}
theorem slice_sized {t e : TypeId} {bytes : Nat} (ht : P.underlying t = some (.slice e)) (hb : P.bytesOf e = bytes) {fuel : Nat} {A : Option Addr} {n c : Nat} {d : DataW H} {p : List MemPlace}
    (h : DataW.trod enc P w base spare held fuel t [.slice A n c] = some (d, p)) (hz : ∀ k ∈ d.weights P t, k ≤ reachBytes) : n * bytes ≤ 140737488351232 := by
  rcases open_slice ht h with ⟨e1, _⟩ | ⟨a, len, cap, m, n', D, Pl, e1, _, hl, hm, hmm, e2, hi⟩
  · simp only [List.cons.injEq, and_true, Value.slice.injEq] at e1
    rw [e1.2.1]; omega
  · simp only [List.cons.injEq, and_true, Value.slice.injEq] at e1
    obtain ⟨_, rfl, rfl⟩ := e1
    have ed : d = _ := congrArg Prod.fst e2
    subst ed
    have h1 := hz ((((List.range n).map D).length + ((List.range (m - n)).map fun j => D (n + j)).length) * P.bytesOf e) (by simp [DataW.weights, ht])
    rw [hb] at h1
    simp only [List.length_map, List.length_range] at h1
    have hnm : n ≤ m := by rw [hmm]; split <;> omega
    have h2 : n * bytes ≤ (n + (m - n)) * bytes := Nat.mul_le_mul_right _ (by omega)
    have h3 : reachBytes = 140737488351232 := by decide
    omega
end

end Go.Proofs.Ytpnflnocmekpnaa
