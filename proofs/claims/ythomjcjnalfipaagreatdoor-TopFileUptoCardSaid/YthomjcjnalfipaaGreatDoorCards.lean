/-
  DERIVED. GIVEN WITH THE SEED: THE CARDS: each row of YthomjcjnalfipaaGreatDoorRows.lean that lists a variable, with what it lists TIED to the program's text (the seventh form; the later family's looks); each row that meets fmt, with fmt's text TOLD by the authors' own Lean function (tested against real Go, not proved from fmt's source: count such statements apart). THE CARD IS WHAT COUNTS. Prove the row's statement (the work); the ties are given (YthomjcjnalfipaaGreatDoorTie.lean); close each card by the builder's one call (the guide's Derived/Test/ToyasCard.lean, 'card_holds'). Laid BY PROGRAM, IN A SANDBOX (cutbox-door.mjs). By AI agents, Wed Nov 11 2026. No macro, syntax, notation, axiom, sorry.
-/
import Derived.Test.YthomjcjnalfipaaGreatDoorRows
import GoSem.ClaimSeven
namespace Go.Proofs.YthomjcjnalfipaaGreatDoor
namespace Rows

/-- THE TIED CARD OF 'scripttop.TopAny'. -/
def topAnyCard : Claim7 := { stood := { row := topAnyRow, standIns := [], harness := (true, "fba32ff4a94054c15c3f3a0fe7cbe8a60dc7e9761b04d490b1abdf8f75430195"), looks := true }, kinds := [], alts := [], laidByText := true, laidKinds := [.data, .data, .data, .sentinel, .sentinel], laidTests := true, laidLooks := .later }
def TopAnyCardSaid : Prop := Claim7.holds Tryz.pinned (.plain (OpenSpec.ofChange topAnySpec)) topAnyCard

/-- THE TIED CARD OF 'scripttop.TopUntouched'. -/
def topUntouchedCard : Claim7 := { stood := { row := topUntouchedRow, standIns := [], harness := (true, "fba32ff4a94054c15c3f3a0fe7cbe8a60dc7e9761b04d490b1abdf8f75430195"), looks := true }, kinds := [], alts := [], laidByText := true, laidKinds := [.data, .data, .data, .sentinel, .sentinel], laidTests := true, laidLooks := .later }
def TopUntouchedCardSaid : Prop := Claim7.holds Tryz.pinned (.plain (OpenSpec.ofChange topUntouchedSpec)) topUntouchedCard

/-- THE TIED CARD OF 'scripttop.TopFile'. -/
def topFileCard : Claim7 := { stood := { row := topFileRow, standIns := [], harness := (true, "fba32ff4a94054c15c3f3a0fe7cbe8a60dc7e9761b04d490b1abdf8f75430195"), looks := true }, kinds := [], alts := [], laidByText := true, laidKinds := [.data, .data, .data, .sentinel, .sentinel], laidTests := true, laidLooks := .later }
def TopFileCardSaid : Prop := Claim7.holds Tryz.pinned (.plain (OpenSpec.ofChange topFileSpec)) topFileCard

/-- THE TIED CARD OF 'scripttop.TopAligned'. -/
def topAlignedCard : Claim7 := { stood := { row := topAlignedRow, standIns := [], harness := (true, "fba32ff4a94054c15c3f3a0fe7cbe8a60dc7e9761b04d490b1abdf8f75430195"), looks := true }, kinds := [], alts := [], laidByText := true, laidKinds := [.data, .data, .data, .sentinel, .sentinel], laidTests := true, laidLooks := .later }
def TopAlignedCardSaid : Prop := Claim7.holds Tryz.pinned (.plain (OpenSpec.ofChange topAlignedSpec)) topAlignedCard

/-- THE TIED CARD OF 'scripttop.TopMasked'. -/
def topMaskedCard : Claim7 := { stood := { row := topMaskedRow, standIns := [], harness := (true, "fba32ff4a94054c15c3f3a0fe7cbe8a60dc7e9761b04d490b1abdf8f75430195"), looks := true }, kinds := [], alts := [], laidByText := true, laidKinds := [.data, .data, .data, .sentinel, .sentinel], laidTests := true, laidLooks := .later }
def TopMaskedCardSaid : Prop := Claim7.holds Tryz.pinned (.plain (OpenSpec.ofChange topMaskedSpec)) topMaskedCard

/-- THE SECOND FORM's CARD OF 'scripttop.TopAny'. -/
def topAnyUptoCard : Claim7 := { stood := { row := topAnyUptoRow, standIns := [], harness := (true, "fba32ff4a94054c15c3f3a0fe7cbe8a60dc7e9761b04d490b1abdf8f75430195"), looks := true }, kinds := [], alts := [], laidByText := true, laidKinds := [.data, .data, .data, .sentinel, .sentinel], laidTests := true, laidLooks := .later }
def TopAnyUptoCardSaid : Prop := Claim7.holds Tryz.pinned (.plain (OpenSpec.upto topAnySpec)) topAnyUptoCard

/-- THE SECOND FORM's CARD OF 'scripttop.TopUntouched'. -/
def topUntouchedUptoCard : Claim7 := { stood := { row := topUntouchedUptoRow, standIns := [], harness := (true, "fba32ff4a94054c15c3f3a0fe7cbe8a60dc7e9761b04d490b1abdf8f75430195"), looks := true }, kinds := [], alts := [], laidByText := true, laidKinds := [.data, .data, .data, .sentinel, .sentinel], laidTests := true, laidLooks := .later }
def TopUntouchedUptoCardSaid : Prop := Claim7.holds Tryz.pinned (.plain (OpenSpec.upto topUntouchedSpec)) topUntouchedUptoCard

/-- THE SECOND FORM's CARD OF 'scripttop.TopFile'. -/
def topFileUptoCard : Claim7 := { stood := { row := topFileUptoRow, standIns := [], harness := (true, "fba32ff4a94054c15c3f3a0fe7cbe8a60dc7e9761b04d490b1abdf8f75430195"), looks := true }, kinds := [], alts := [], laidByText := true, laidKinds := [.data, .data, .data, .sentinel, .sentinel], laidTests := true, laidLooks := .later }
def TopFileUptoCardSaid : Prop := Claim7.holds Tryz.pinned (.plain (OpenSpec.upto topFileSpec)) topFileUptoCard

/-- THE SECOND FORM's CARD OF 'scripttop.TopAligned'. -/
def topAlignedUptoCard : Claim7 := { stood := { row := topAlignedUptoRow, standIns := [], harness := (true, "fba32ff4a94054c15c3f3a0fe7cbe8a60dc7e9761b04d490b1abdf8f75430195"), looks := true }, kinds := [], alts := [], laidByText := true, laidKinds := [.data, .data, .data, .sentinel, .sentinel], laidTests := true, laidLooks := .later }
def TopAlignedUptoCardSaid : Prop := Claim7.holds Tryz.pinned (.plain (OpenSpec.upto topAlignedSpec)) topAlignedUptoCard

/-- THE SECOND FORM's CARD OF 'scripttop.TopMasked'. -/
def topMaskedUptoCard : Claim7 := { stood := { row := topMaskedUptoRow, standIns := [], harness := (true, "fba32ff4a94054c15c3f3a0fe7cbe8a60dc7e9761b04d490b1abdf8f75430195"), looks := true }, kinds := [], alts := [], laidByText := true, laidKinds := [.data, .data, .data, .sentinel, .sentinel], laidTests := true, laidLooks := .later }
def TopMaskedUptoCardSaid : Prop := Claim7.holds Tryz.pinned (.plain (OpenSpec.upto topMaskedSpec)) topMaskedUptoCard
end Rows
end Go.Proofs.YthomjcjnalfipaaGreatDoor
