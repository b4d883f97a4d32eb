/-
  No cell of these rows narrows 'for every input' (looked for: loops, veiled, ifaces, maps, wideKeys, modest, calm, conditions, laid).
  DERIVED. THE GIVEN ROWS OF THIS SEAT. 19 by the template 'for every input the law returns true; each argument reads behind the call as it read before'; 0 by the template 'total and deterministic' (their statements: YtfdkbhbnldcbmaaTotals.lean).
  GIVEN WITH THE SEED: the statements are not yours to turn. If you find one false, say at which input.
  Laid BY PROGRAM, IN A SANDBOX (cutbox-rows.mjs): the forced cells as the released guide's own fill.sh prints them over the translation b9c2eb29d915c058… (all of the seat's roots in one cut). By AI agents, Wed Nov 11 2026. No macro, syntax, notation, axiom, sorry.
-/
import Derived.Test.YtfdkbhbnldcbmaaChecked
import GoSem.Claim
import GoSem.ClaimJoined
import GoSem.ClaimMapViews
import Derived.JoinedTies
import Derived.KernelRfl
namespace Go.Proofs.Ytfdkbhbnldcbmaa
/- THE CELL 'sum', in the pinned program and in every row, IS THE sha256 OF THE DUMP (.gsa) THAT YtfdkbhbnldcbmaaProg.lean LOADS. Nothing in Lean hashes anything: it is a label: what it is worth is what the hold of that sum in a sandbox is worth. -/
noncomputable def Try.pinned : Pinned := { name := "ytfdkbhbnldcbmaa", sum := "b9c2eb29d915c0582c020533d8e1dac3306ade7b3abdf669ceec6f50822dd50e", checked := Try.checked }
namespace Rows
def none {H : Type} : Left H := { results := [], args := [] }

/-- 'scriptlaw7.MatchTells': WHATEVER THE INPUT: true; the input reads as it did. -/
def matchTellsSpec : ChangeSpec := { name := "matchTells", fn := fun _ => fun
  | [d1, d2, d3] => { results := [.lit (.bool true)], args := [d1, d2, d3] }
  | _ => none }
def matchTellsRow : OpenClaim := { program := "ytfdkbhbnldcbmaa", sum := "b9c2eb29d915c0582c020533d8e1dac3306ade7b3abdf669ceec6f50822dd50e", func := "scriptshift/scriptlaw7.MatchTells", spec := "matchTells", unfollowed := true, recurses := true, apart := false }
def MatchTellsSaid : Prop := matchTellsRow.holds Try.pinned (OpenSpec.ofChange matchTellsSpec)

/-- ITS FALSE NEIGHBOUR: 'it returns false'. Refute it at one input. -/
def matchTellsWrong : ChangeSpec := { name := "matchTells", fn := fun _ => fun
  | [d1, d2, d3] => { results := [.lit (.bool false)], args := [d1, d2, d3] }
  | _ => none }
def MatchTellsWrongFalsely : Prop := matchTellsRow.holds Try.pinned (OpenSpec.ofChange matchTellsWrong)

/-- 'scriptlaw8.RunTells': WHATEVER THE INPUT: true; the input reads as it did. -/
def runTellsSpec : ChangeSpec := { name := "runTells", fn := fun _ => fun
  | [d1, d2, d3] => { results := [.lit (.bool true)], args := [d1, d2, d3] }
  | _ => none }
def runTellsRow : OpenClaim := { program := "ytfdkbhbnldcbmaa", sum := "b9c2eb29d915c0582c020533d8e1dac3306ade7b3abdf669ceec6f50822dd50e", func := "scriptshift/scriptlaw8.RunTells", spec := "runTells", unfollowed := true, recurses := true, apart := false }
def RunTellsSaid : Prop := runTellsRow.holds Try.pinned (OpenSpec.ofChange runTellsSpec)

/-- ITS FALSE NEIGHBOUR: 'it returns false'. Refute it at one input. -/
def runTellsWrong : ChangeSpec := { name := "runTells", fn := fun _ => fun
  | [d1, d2, d3] => { results := [.lit (.bool false)], args := [d1, d2, d3] }
  | _ => none }
def RunTellsWrongFalsely : Prop := runTellsRow.holds Try.pinned (OpenSpec.ofChange runTellsWrong)

/-- 'scriptlaw9.AnalyseReach': WHATEVER THE INPUT: true; the input reads as it did. -/
def analyseReachSpec : ChangeSpec := { name := "analyseReach", fn := fun _ => fun
  | [d1, d2, d3] => { results := [.lit (.bool true)], args := [d1, d2, d3] }
  | _ => none }
def analyseReachRow : OpenClaim := { program := "ytfdkbhbnldcbmaa", sum := "b9c2eb29d915c0582c020533d8e1dac3306ade7b3abdf669ceec6f50822dd50e", func := "scriptshift/scriptlaw9.AnalyseReach", spec := "analyseReach", unfollowed := true, recurses := true, apart := false }
def AnalyseReachSaid : Prop := analyseReachRow.holds Try.pinned (OpenSpec.ofChange analyseReachSpec)

/-- ITS FALSE NEIGHBOUR: 'it returns false'. Refute it at one input. -/
def analyseReachWrong : ChangeSpec := { name := "analyseReach", fn := fun _ => fun
  | [d1, d2, d3] => { results := [.lit (.bool false)], args := [d1, d2, d3] }
  | _ => none }
def AnalyseReachWrongFalsely : Prop := analyseReachRow.holds Try.pinned (OpenSpec.ofChange analyseReachWrong)

/-- 'scriptlaw9.AnalyseMasks': WHATEVER THE INPUT: true; the input reads as it did. -/
def analyseMasksSpec : ChangeSpec := { name := "analyseMasks", fn := fun _ => fun
  | [d1, d2, d3, d4, d5] => { results := [.lit (.bool true)], args := [d1, d2, d3, d4, d5] }
  | _ => none }
def analyseMasksRow : OpenClaim := { program := "ytfdkbhbnldcbmaa", sum := "b9c2eb29d915c0582c020533d8e1dac3306ade7b3abdf669ceec6f50822dd50e", func := "scriptshift/scriptlaw9.AnalyseMasks", spec := "analyseMasks", unfollowed := true, recurses := true, apart := false }
def AnalyseMasksSaid : Prop := analyseMasksRow.holds Try.pinned (OpenSpec.ofChange analyseMasksSpec)

/-- ITS FALSE NEIGHBOUR: 'it returns false'. Refute it at one input. -/
def analyseMasksWrong : ChangeSpec := { name := "analyseMasks", fn := fun _ => fun
  | [d1, d2, d3, d4, d5] => { results := [.lit (.bool false)], args := [d1, d2, d3, d4, d5] }
  | _ => none }
def AnalyseMasksWrongFalsely : Prop := analyseMasksRow.holds Try.pinned (OpenSpec.ofChange analyseMasksWrong)

/-- 'scriptlaw9.AnalyseSure': WHATEVER THE INPUT: true; the input reads as it did. -/
def analyseSureSpec : ChangeSpec := { name := "analyseSure", fn := fun _ => fun
  | [d1, d2] => { results := [.lit (.bool true)], args := [d1, d2] }
  | _ => none }
def analyseSureRow : OpenClaim := { program := "ytfdkbhbnldcbmaa", sum := "b9c2eb29d915c0582c020533d8e1dac3306ade7b3abdf669ceec6f50822dd50e", func := "scriptshift/scriptlaw9.AnalyseSure", spec := "analyseSure", unfollowed := true, recurses := true, apart := false }
def AnalyseSureSaid : Prop := analyseSureRow.holds Try.pinned (OpenSpec.ofChange analyseSureSpec)

/-- ITS FALSE NEIGHBOUR: 'it returns false'. Refute it at one input. -/
def analyseSureWrong : ChangeSpec := { name := "analyseSure", fn := fun _ => fun
  | [d1, d2] => { results := [.lit (.bool false)], args := [d1, d2] }
  | _ => none }
def AnalyseSureWrongFalsely : Prop := analyseSureRow.holds Try.pinned (OpenSpec.ofChange analyseSureWrong)

/-- 'scriptlaw12.StreamTells': WHATEVER THE INPUT: true; the input reads as it did. -/
def streamTellsSpec : ChangeSpec := { name := "streamTells", fn := fun _ => fun
  | [d1, d2] => { results := [.lit (.bool true)], args := [d1, d2] }
  | _ => none }
def streamTellsRow : OpenClaim := { program := "ytfdkbhbnldcbmaa", sum := "b9c2eb29d915c0582c020533d8e1dac3306ade7b3abdf669ceec6f50822dd50e", func := "scriptshift/scriptlaw12.StreamTells", spec := "streamTells", unfollowed := true, recurses := true, apart := false }
def StreamTellsSaid : Prop := streamTellsRow.holds Try.pinned (OpenSpec.ofChange streamTellsSpec)

/-- ITS FALSE NEIGHBOUR: 'it returns false'. Refute it at one input. -/
def streamTellsWrong : ChangeSpec := { name := "streamTells", fn := fun _ => fun
  | [d1, d2] => { results := [.lit (.bool false)], args := [d1, d2] }
  | _ => none }
def StreamTellsWrongFalsely : Prop := streamTellsRow.holds Try.pinned (OpenSpec.ofChange streamTellsWrong)

/-- 'scriptlaw9.AnalyseMasked': WHATEVER THE INPUT: true; the input reads as it did. -/
def analyseMaskedSpec : ChangeSpec := { name := "analyseMasked", fn := fun _ => fun
  | [d1, d2] => { results := [.lit (.bool true)], args := [d1, d2] }
  | _ => none }
def analyseMaskedRow : OpenClaim := { program := "ytfdkbhbnldcbmaa", sum := "b9c2eb29d915c0582c020533d8e1dac3306ade7b3abdf669ceec6f50822dd50e", func := "scriptshift/scriptlaw9.AnalyseMasked", spec := "analyseMasked", unfollowed := true, recurses := true, apart := false }
def AnalyseMaskedSaid : Prop := analyseMaskedRow.holds Try.pinned (OpenSpec.ofChange analyseMaskedSpec)

/-- ITS FALSE NEIGHBOUR: 'it returns false'. Refute it at one input. -/
def analyseMaskedWrong : ChangeSpec := { name := "analyseMasked", fn := fun _ => fun
  | [d1, d2] => { results := [.lit (.bool false)], args := [d1, d2] }
  | _ => none }
def AnalyseMaskedWrongFalsely : Prop := analyseMaskedRow.holds Try.pinned (OpenSpec.ofChange analyseMaskedWrong)

/-- 'scriptlaw22.GuessTells': WHATEVER THE INPUT: true; the input reads as it did. -/
def guessTellsSpec : ChangeSpec := { name := "guessTells", fn := fun _ => fun
  | [d1, d2, d3, d4] => { results := [.lit (.bool true)], args := [d1, d2, d3, d4] }
  | _ => none }
def guessTellsRow : OpenClaim := { program := "ytfdkbhbnldcbmaa", sum := "b9c2eb29d915c0582c020533d8e1dac3306ade7b3abdf669ceec6f50822dd50e", func := "scriptshift/scriptlaw22.GuessTells", spec := "guessTells", unfollowed := true, recurses := true, apart := false }
def GuessTellsSaid : Prop := guessTellsRow.holds Try.pinned (OpenSpec.ofChange guessTellsSpec)

/-- ITS FALSE NEIGHBOUR: 'it returns false'. Refute it at one input. -/
def guessTellsWrong : ChangeSpec := { name := "guessTells", fn := fun _ => fun
  | [d1, d2, d3, d4] => { results := [.lit (.bool false)], args := [d1, d2, d3, d4] }
  | _ => none }
def GuessTellsWrongFalsely : Prop := guessTellsRow.holds Try.pinned (OpenSpec.ofChange guessTellsWrong)

/-- 'scriptlaw14.PairTells': WHATEVER THE INPUT: true; the input reads as it did. -/
def pairTellsSpec : ChangeSpec := { name := "pairTells", fn := fun _ => fun
  | [d1, d2, d3] => { results := [.lit (.bool true)], args := [d1, d2, d3] }
  | _ => none }
def pairTellsRow : OpenClaim := { program := "ytfdkbhbnldcbmaa", sum := "b9c2eb29d915c0582c020533d8e1dac3306ade7b3abdf669ceec6f50822dd50e", func := "scriptshift/scriptlaw14.PairTells", spec := "pairTells", unfollowed := true, recurses := true, apart := false }
def PairTellsSaid : Prop := pairTellsRow.holds Try.pinned (OpenSpec.ofChange pairTellsSpec)

/-- ITS FALSE NEIGHBOUR: 'it returns false'. Refute it at one input. -/
def pairTellsWrong : ChangeSpec := { name := "pairTells", fn := fun _ => fun
  | [d1, d2, d3] => { results := [.lit (.bool false)], args := [d1, d2, d3] }
  | _ => none }
def PairTellsWrongFalsely : Prop := pairTellsRow.holds Try.pinned (OpenSpec.ofChange pairTellsWrong)

/-- 'scriptlaw14.PairUndoes': WHATEVER THE INPUT: true; the input reads as it did. -/
def pairUndoesSpec : ChangeSpec := { name := "pairUndoes", fn := fun _ => fun
  | [d1, d2, d3, d4] => { results := [.lit (.bool true)], args := [d1, d2, d3, d4] }
  | _ => none }
def pairUndoesRow : OpenClaim := { program := "ytfdkbhbnldcbmaa", sum := "b9c2eb29d915c0582c020533d8e1dac3306ade7b3abdf669ceec6f50822dd50e", func := "scriptshift/scriptlaw14.PairUndoes", spec := "pairUndoes", unfollowed := true, recurses := true, apart := false }
def PairUndoesSaid : Prop := pairUndoesRow.holds Try.pinned (OpenSpec.ofChange pairUndoesSpec)

/-- ITS FALSE NEIGHBOUR: 'it returns false'. Refute it at one input. -/
def pairUndoesWrong : ChangeSpec := { name := "pairUndoes", fn := fun _ => fun
  | [d1, d2, d3, d4] => { results := [.lit (.bool false)], args := [d1, d2, d3, d4] }
  | _ => none }
def PairUndoesWrongFalsely : Prop := pairUndoesRow.holds Try.pinned (OpenSpec.ofChange pairUndoesWrong)

/-- 'scriptlaw14.PairApart': WHATEVER THE INPUT: true; the input reads as it did. -/
def pairApartSpec : ChangeSpec := { name := "pairApart", fn := fun _ => fun
  | [d1, d2, d3, d4, d5] => { results := [.lit (.bool true)], args := [d1, d2, d3, d4, d5] }
  | _ => none }
def pairApartRow : OpenClaim := { program := "ytfdkbhbnldcbmaa", sum := "b9c2eb29d915c0582c020533d8e1dac3306ade7b3abdf669ceec6f50822dd50e", func := "scriptshift/scriptlaw14.PairApart", spec := "pairApart", unfollowed := true, recurses := true, apart := false }
def PairApartSaid : Prop := pairApartRow.holds Try.pinned (OpenSpec.ofChange pairApartSpec)

/-- ITS FALSE NEIGHBOUR: 'it returns false'. Refute it at one input. -/
def pairApartWrong : ChangeSpec := { name := "pairApart", fn := fun _ => fun
  | [d1, d2, d3, d4, d5] => { results := [.lit (.bool false)], args := [d1, d2, d3, d4, d5] }
  | _ => none }
def PairApartWrongFalsely : Prop := pairApartRow.holds Try.pinned (OpenSpec.ofChange pairApartWrong)

/-- 'scriptlaw2.SetsForm': WHATEVER THE INPUT: true; the input reads as it did. -/
def setsFormSpec : ChangeSpec := { name := "setsForm", fn := fun _ => fun
  | [d1, d2] => { results := [.lit (.bool true)], args := [d1, d2] }
  | _ => none }
def setsFormRow : OpenClaim := { program := "ytfdkbhbnldcbmaa", sum := "b9c2eb29d915c0582c020533d8e1dac3306ade7b3abdf669ceec6f50822dd50e", func := "scriptshift/scriptlaw2.SetsForm", spec := "setsForm", unfollowed := true, recurses := true, apart := false }
def SetsFormSaid : Prop := setsFormRow.holds Try.pinned (OpenSpec.ofChange setsFormSpec)

/-- ITS FALSE NEIGHBOUR: 'it returns false'. Refute it at one input. -/
def setsFormWrong : ChangeSpec := { name := "setsForm", fn := fun _ => fun
  | [d1, d2] => { results := [.lit (.bool false)], args := [d1, d2] }
  | _ => none }
def SetsFormWrongFalsely : Prop := setsFormRow.holds Try.pinned (OpenSpec.ofChange setsFormWrong)

/-- 'scriptlaw2.SetsTell': WHATEVER THE INPUT: true; the input reads as it did. -/
def setsTellSpec : ChangeSpec := { name := "setsTell", fn := fun _ => fun
  | [d1, d2, d3, d4] => { results := [.lit (.bool true)], args := [d1, d2, d3, d4] }
  | _ => none }
def setsTellRow : OpenClaim := { program := "ytfdkbhbnldcbmaa", sum := "b9c2eb29d915c0582c020533d8e1dac3306ade7b3abdf669ceec6f50822dd50e", func := "scriptshift/scriptlaw2.SetsTell", spec := "setsTell", unfollowed := true, recurses := true, apart := false }
def SetsTellSaid : Prop := setsTellRow.holds Try.pinned (OpenSpec.ofChange setsTellSpec)

/-- ITS FALSE NEIGHBOUR: 'it returns false'. Refute it at one input. -/
def setsTellWrong : ChangeSpec := { name := "setsTell", fn := fun _ => fun
  | [d1, d2, d3, d4] => { results := [.lit (.bool false)], args := [d1, d2, d3, d4] }
  | _ => none }
def SetsTellWrongFalsely : Prop := setsTellRow.holds Try.pinned (OpenSpec.ofChange setsTellWrong)

/-- 'scriptlaw2.SetsReckon': WHATEVER THE INPUT: true; the input reads as it did. -/
def setsReckonSpec : ChangeSpec := { name := "setsReckon", fn := fun _ => fun
  | [d1, d2] => { results := [.lit (.bool true)], args := [d1, d2] }
  | _ => none }
def setsReckonRow : OpenClaim := { program := "ytfdkbhbnldcbmaa", sum := "b9c2eb29d915c0582c020533d8e1dac3306ade7b3abdf669ceec6f50822dd50e", func := "scriptshift/scriptlaw2.SetsReckon", spec := "setsReckon", unfollowed := true, recurses := true, apart := false }
def SetsReckonSaid : Prop := setsReckonRow.holds Try.pinned (OpenSpec.ofChange setsReckonSpec)

/-- ITS FALSE NEIGHBOUR: 'it returns false'. Refute it at one input. -/
def setsReckonWrong : ChangeSpec := { name := "setsReckon", fn := fun _ => fun
  | [d1, d2] => { results := [.lit (.bool false)], args := [d1, d2] }
  | _ => none }
def SetsReckonWrongFalsely : Prop := setsReckonRow.holds Try.pinned (OpenSpec.ofChange setsReckonWrong)

/-- 'scriptlaw2.SetsAlgebra': WHATEVER THE INPUT: true; the input reads as it did. -/
def setsAlgebraSpec : ChangeSpec := { name := "setsAlgebra", fn := fun _ => fun
  | [d1, d2, d3] => { results := [.lit (.bool true)], args := [d1, d2, d3] }
  | _ => none }
def setsAlgebraRow : OpenClaim := { program := "ytfdkbhbnldcbmaa", sum := "b9c2eb29d915c0582c020533d8e1dac3306ade7b3abdf669ceec6f50822dd50e", func := "scriptshift/scriptlaw2.SetsAlgebra", spec := "setsAlgebra", unfollowed := true, recurses := true, apart := false }
def SetsAlgebraSaid : Prop := setsAlgebraRow.holds Try.pinned (OpenSpec.ofChange setsAlgebraSpec)

/-- ITS FALSE NEIGHBOUR: 'it returns false'. Refute it at one input. -/
def setsAlgebraWrong : ChangeSpec := { name := "setsAlgebra", fn := fun _ => fun
  | [d1, d2, d3] => { results := [.lit (.bool false)], args := [d1, d2, d3] }
  | _ => none }
def SetsAlgebraWrongFalsely : Prop := setsAlgebraRow.holds Try.pinned (OpenSpec.ofChange setsAlgebraWrong)

/-- 'scriptlaw2.SetsCount': WHATEVER THE INPUT: true; the input reads as it did. -/
def setsCountSpec : ChangeSpec := { name := "setsCount", fn := fun _ => fun
  | [d1, d2, d3] => { results := [.lit (.bool true)], args := [d1, d2, d3] }
  | _ => none }
def setsCountRow : OpenClaim := { program := "ytfdkbhbnldcbmaa", sum := "b9c2eb29d915c0582c020533d8e1dac3306ade7b3abdf669ceec6f50822dd50e", func := "scriptshift/scriptlaw2.SetsCount", spec := "setsCount", unfollowed := true, recurses := true, apart := false }
def SetsCountSaid : Prop := setsCountRow.holds Try.pinned (OpenSpec.ofChange setsCountSpec)

/-- ITS FALSE NEIGHBOUR: 'it returns false'. Refute it at one input. -/
def setsCountWrong : ChangeSpec := { name := "setsCount", fn := fun _ => fun
  | [d1, d2, d3] => { results := [.lit (.bool false)], args := [d1, d2, d3] }
  | _ => none }
def SetsCountWrongFalsely : Prop := setsCountRow.holds Try.pinned (OpenSpec.ofChange setsCountWrong)

/-- 'scriptlaw9.AnalyseTells': WHATEVER THE INPUT: true; the input reads as it did. -/
def analyseTellsSpec : ChangeSpec := { name := "analyseTells", fn := fun _ => fun
  | [d1, d2, d3] => { results := [.lit (.bool true)], args := [d1, d2, d3] }
  | _ => none }
def analyseTellsRow : OpenClaim := { program := "ytfdkbhbnldcbmaa", sum := "b9c2eb29d915c0582c020533d8e1dac3306ade7b3abdf669ceec6f50822dd50e", func := "scriptshift/scriptlaw9.AnalyseTells", spec := "analyseTells", unfollowed := true, recurses := true, apart := false }
def AnalyseTellsSaid : Prop := analyseTellsRow.holds Try.pinned (OpenSpec.ofChange analyseTellsSpec)

/-- ITS FALSE NEIGHBOUR: 'it returns false'. Refute it at one input. -/
def analyseTellsWrong : ChangeSpec := { name := "analyseTells", fn := fun _ => fun
  | [d1, d2, d3] => { results := [.lit (.bool false)], args := [d1, d2, d3] }
  | _ => none }
def AnalyseTellsWrongFalsely : Prop := analyseTellsRow.holds Try.pinned (OpenSpec.ofChange analyseTellsWrong)

/-- 'scriptlaw9.AnalyseFirsts': WHATEVER THE INPUT: true; the input reads as it did. -/
def analyseFirstsSpec : ChangeSpec := { name := "analyseFirsts", fn := fun _ => fun
  | [d1, d2] => { results := [.lit (.bool true)], args := [d1, d2] }
  | _ => none }
def analyseFirstsRow : OpenClaim := { program := "ytfdkbhbnldcbmaa", sum := "b9c2eb29d915c0582c020533d8e1dac3306ade7b3abdf669ceec6f50822dd50e", func := "scriptshift/scriptlaw9.AnalyseFirsts", spec := "analyseFirsts", unfollowed := true, recurses := true, apart := false }
def AnalyseFirstsSaid : Prop := analyseFirstsRow.holds Try.pinned (OpenSpec.ofChange analyseFirstsSpec)

/-- ITS FALSE NEIGHBOUR: 'it returns false'. Refute it at one input. -/
def analyseFirstsWrong : ChangeSpec := { name := "analyseFirsts", fn := fun _ => fun
  | [d1, d2] => { results := [.lit (.bool false)], args := [d1, d2] }
  | _ => none }
def AnalyseFirstsWrongFalsely : Prop := analyseFirstsRow.holds Try.pinned (OpenSpec.ofChange analyseFirstsWrong)

/-- 'scriptlaw9.AnalyseSteady': WHATEVER THE INPUT: true; the input reads as it did. -/
def analyseSteadySpec : ChangeSpec := { name := "analyseSteady", fn := fun _ => fun
  | [d1, d2] => { results := [.lit (.bool true)], args := [d1, d2] }
  | _ => none }
def analyseSteadyRow : OpenClaim := { program := "ytfdkbhbnldcbmaa", sum := "b9c2eb29d915c0582c020533d8e1dac3306ade7b3abdf669ceec6f50822dd50e", func := "scriptshift/scriptlaw9.AnalyseSteady", spec := "analyseSteady", unfollowed := true, recurses := true, apart := false }
def AnalyseSteadySaid : Prop := analyseSteadyRow.holds Try.pinned (OpenSpec.ofChange analyseSteadySpec)

/-- ITS FALSE NEIGHBOUR: 'it returns false'. Refute it at one input. -/
def analyseSteadyWrong : ChangeSpec := { name := "analyseSteady", fn := fun _ => fun
  | [d1, d2] => { results := [.lit (.bool false)], args := [d1, d2] }
  | _ => none }
def AnalyseSteadyWrongFalsely : Prop := analyseSteadyRow.holds Try.pinned (OpenSpec.ofChange analyseSteadyWrong)

/- THE SECOND FORM. 'bulk': how many values and letters a reading holds, each counted each time it is reached (what is shared counts as often as it is met; a slice's spare places count too). A statement '..UptoSaid' is the law's where the arguments, and the package variables that the reading takes, are together of bulk at most 1048576: NARROWER than '..Said'. Prove '..Said' where nothing that the law and all that it calls make is longer than what came in: it says more and counts as full. Else prove '..UptoSaid'. A law counts once. -/
mutual
def uptoBulk {H : Type} : DataW H → Nat
  | .lit (.string bytes) => bytes.length + 1
  | .lit _ => 1
  | .nil => 1
  | .ptr d => uptoBulk d + 1
  | .slice elems spare => uptoBulkAll elems + uptoBulkAll spare + 1
  | .agg parts => uptoBulkAll parts + 1
  | .iface _ d => uptoBulk d + 1
  | .map entries => uptoBulkEntries entries + 1
  | .held _ => 1
def uptoBulkAll {H : Type} : List (DataW H) → Nat
  | [] => 0
  | d :: r => uptoBulk d + uptoBulkAll r
def uptoBulkEntries {H : Type} : List (Lit × DataW H) → Nat
  | [] => 0
  | x :: r => uptoBulkEntry x + uptoBulkEntries r
def uptoBulkEntry {H : Type} : Lit × DataW H → Nat
  | (.string bytes, d) => bytes.length + uptoBulk d + 1
  | (_, d) => uptoBulk d + 1
 end
def uptoSmall : (H : Type) → List (DataW H) → Bool := fun _ ds => decide (uptoBulkAll ds ≤ 1048576)
def OpenSpec.upto (s : _root_.Go.ChangeSpec) : _root_.Go.OpenSpec := { _root_.Go.OpenSpec.ofChange s with cond := some uptoSmall }

/-- 'scriptlaw7.MatchTells', WHERE WHAT IT READS IS OF BULK AT MOST 1048576: true; the input reads as it did. -/
def matchTellsUptoRow : OpenClaim := { program := "ytfdkbhbnldcbmaa", sum := "b9c2eb29d915c0582c020533d8e1dac3306ade7b3abdf669ceec6f50822dd50e", func := "scriptshift/scriptlaw7.MatchTells", spec := "matchTells", unfollowed := true, recurses := true, apart := false, narrowed := true }
def MatchTellsUptoSaid : Prop := matchTellsUptoRow.holds Try.pinned (OpenSpec.upto matchTellsSpec)

/-- 'scriptlaw8.RunTells', WHERE WHAT IT READS IS OF BULK AT MOST 1048576: true; the input reads as it did. -/
def runTellsUptoRow : OpenClaim := { program := "ytfdkbhbnldcbmaa", sum := "b9c2eb29d915c0582c020533d8e1dac3306ade7b3abdf669ceec6f50822dd50e", func := "scriptshift/scriptlaw8.RunTells", spec := "runTells", unfollowed := true, recurses := true, apart := false, narrowed := true }
def RunTellsUptoSaid : Prop := runTellsUptoRow.holds Try.pinned (OpenSpec.upto runTellsSpec)

/-- 'scriptlaw9.AnalyseReach', WHERE WHAT IT READS IS OF BULK AT MOST 1048576: true; the input reads as it did. -/
def analyseReachUptoRow : OpenClaim := { program := "ytfdkbhbnldcbmaa", sum := "b9c2eb29d915c0582c020533d8e1dac3306ade7b3abdf669ceec6f50822dd50e", func := "scriptshift/scriptlaw9.AnalyseReach", spec := "analyseReach", unfollowed := true, recurses := true, apart := false, narrowed := true }
def AnalyseReachUptoSaid : Prop := analyseReachUptoRow.holds Try.pinned (OpenSpec.upto analyseReachSpec)

/-- 'scriptlaw9.AnalyseMasks', WHERE WHAT IT READS IS OF BULK AT MOST 1048576: true; the input reads as it did. -/
def analyseMasksUptoRow : OpenClaim := { program := "ytfdkbhbnldcbmaa", sum := "b9c2eb29d915c0582c020533d8e1dac3306ade7b3abdf669ceec6f50822dd50e", func := "scriptshift/scriptlaw9.AnalyseMasks", spec := "analyseMasks", unfollowed := true, recurses := true, apart := false, narrowed := true }
def AnalyseMasksUptoSaid : Prop := analyseMasksUptoRow.holds Try.pinned (OpenSpec.upto analyseMasksSpec)

/-- 'scriptlaw9.AnalyseSure', WHERE WHAT IT READS IS OF BULK AT MOST 1048576: true; the input reads as it did. -/
def analyseSureUptoRow : OpenClaim := { program := "ytfdkbhbnldcbmaa", sum := "b9c2eb29d915c0582c020533d8e1dac3306ade7b3abdf669ceec6f50822dd50e", func := "scriptshift/scriptlaw9.AnalyseSure", spec := "analyseSure", unfollowed := true, recurses := true, apart := false, narrowed := true }
def AnalyseSureUptoSaid : Prop := analyseSureUptoRow.holds Try.pinned (OpenSpec.upto analyseSureSpec)

/-- 'scriptlaw12.StreamTells', WHERE WHAT IT READS IS OF BULK AT MOST 1048576: true; the input reads as it did. -/
def streamTellsUptoRow : OpenClaim := { program := "ytfdkbhbnldcbmaa", sum := "b9c2eb29d915c0582c020533d8e1dac3306ade7b3abdf669ceec6f50822dd50e", func := "scriptshift/scriptlaw12.StreamTells", spec := "streamTells", unfollowed := true, recurses := true, apart := false, narrowed := true }
def StreamTellsUptoSaid : Prop := streamTellsUptoRow.holds Try.pinned (OpenSpec.upto streamTellsSpec)

/-- 'scriptlaw9.AnalyseMasked', WHERE WHAT IT READS IS OF BULK AT MOST 1048576: true; the input reads as it did. -/
def analyseMaskedUptoRow : OpenClaim := { program := "ytfdkbhbnldcbmaa", sum := "b9c2eb29d915c0582c020533d8e1dac3306ade7b3abdf669ceec6f50822dd50e", func := "scriptshift/scriptlaw9.AnalyseMasked", spec := "analyseMasked", unfollowed := true, recurses := true, apart := false, narrowed := true }
def AnalyseMaskedUptoSaid : Prop := analyseMaskedUptoRow.holds Try.pinned (OpenSpec.upto analyseMaskedSpec)

/-- 'scriptlaw22.GuessTells', WHERE WHAT IT READS IS OF BULK AT MOST 1048576: true; the input reads as it did. -/
def guessTellsUptoRow : OpenClaim := { program := "ytfdkbhbnldcbmaa", sum := "b9c2eb29d915c0582c020533d8e1dac3306ade7b3abdf669ceec6f50822dd50e", func := "scriptshift/scriptlaw22.GuessTells", spec := "guessTells", unfollowed := true, recurses := true, apart := false, narrowed := true }
def GuessTellsUptoSaid : Prop := guessTellsUptoRow.holds Try.pinned (OpenSpec.upto guessTellsSpec)

/-- 'scriptlaw14.PairTells', WHERE WHAT IT READS IS OF BULK AT MOST 1048576: true; the input reads as it did. -/
def pairTellsUptoRow : OpenClaim := { program := "ytfdkbhbnldcbmaa", sum := "b9c2eb29d915c0582c020533d8e1dac3306ade7b3abdf669ceec6f50822dd50e", func := "scriptshift/scriptlaw14.PairTells", spec := "pairTells", unfollowed := true, recurses := true, apart := false, narrowed := true }
def PairTellsUptoSaid : Prop := pairTellsUptoRow.holds Try.pinned (OpenSpec.upto pairTellsSpec)

/-- 'scriptlaw14.PairUndoes', WHERE WHAT IT READS IS OF BULK AT MOST 1048576: true; the input reads as it did. -/
def pairUndoesUptoRow : OpenClaim := { program := "ytfdkbhbnldcbmaa", sum := "b9c2eb29d915c0582c020533d8e1dac3306ade7b3abdf669ceec6f50822dd50e", func := "scriptshift/scriptlaw14.PairUndoes", spec := "pairUndoes", unfollowed := true, recurses := true, apart := false, narrowed := true }
def PairUndoesUptoSaid : Prop := pairUndoesUptoRow.holds Try.pinned (OpenSpec.upto pairUndoesSpec)

/-- 'scriptlaw14.PairApart', WHERE WHAT IT READS IS OF BULK AT MOST 1048576: true; the input reads as it did. -/
def pairApartUptoRow : OpenClaim := { program := "ytfdkbhbnldcbmaa", sum := "b9c2eb29d915c0582c020533d8e1dac3306ade7b3abdf669ceec6f50822dd50e", func := "scriptshift/scriptlaw14.PairApart", spec := "pairApart", unfollowed := true, recurses := true, apart := false, narrowed := true }
def PairApartUptoSaid : Prop := pairApartUptoRow.holds Try.pinned (OpenSpec.upto pairApartSpec)

/-- 'scriptlaw2.SetsForm', WHERE WHAT IT READS IS OF BULK AT MOST 1048576: true; the input reads as it did. -/
def setsFormUptoRow : OpenClaim := { program := "ytfdkbhbnldcbmaa", sum := "b9c2eb29d915c0582c020533d8e1dac3306ade7b3abdf669ceec6f50822dd50e", func := "scriptshift/scriptlaw2.SetsForm", spec := "setsForm", unfollowed := true, recurses := true, apart := false, narrowed := true }
def SetsFormUptoSaid : Prop := setsFormUptoRow.holds Try.pinned (OpenSpec.upto setsFormSpec)

/-- 'scriptlaw2.SetsTell', WHERE WHAT IT READS IS OF BULK AT MOST 1048576: true; the input reads as it did. -/
def setsTellUptoRow : OpenClaim := { program := "ytfdkbhbnldcbmaa", sum := "b9c2eb29d915c0582c020533d8e1dac3306ade7b3abdf669ceec6f50822dd50e", func := "scriptshift/scriptlaw2.SetsTell", spec := "setsTell", unfollowed := true, recurses := true, apart := false, narrowed := true }
def SetsTellUptoSaid : Prop := setsTellUptoRow.holds Try.pinned (OpenSpec.upto setsTellSpec)

/-- 'scriptlaw2.SetsReckon', WHERE WHAT IT READS IS OF BULK AT MOST 1048576: true; the input reads as it did. -/
def setsReckonUptoRow : OpenClaim := { program := "ytfdkbhbnldcbmaa", sum := "b9c2eb29d915c0582c020533d8e1dac3306ade7b3abdf669ceec6f50822dd50e", func := "scriptshift/scriptlaw2.SetsReckon", spec := "setsReckon", unfollowed := true, recurses := true, apart := false, narrowed := true }
def SetsReckonUptoSaid : Prop := setsReckonUptoRow.holds Try.pinned (OpenSpec.upto setsReckonSpec)

/-- 'scriptlaw2.SetsAlgebra', WHERE WHAT IT READS IS OF BULK AT MOST 1048576: true; the input reads as it did. -/
def setsAlgebraUptoRow : OpenClaim := { program := "ytfdkbhbnldcbmaa", sum := "b9c2eb29d915c0582c020533d8e1dac3306ade7b3abdf669ceec6f50822dd50e", func := "scriptshift/scriptlaw2.SetsAlgebra", spec := "setsAlgebra", unfollowed := true, recurses := true, apart := false, narrowed := true }
def SetsAlgebraUptoSaid : Prop := setsAlgebraUptoRow.holds Try.pinned (OpenSpec.upto setsAlgebraSpec)

/-- 'scriptlaw2.SetsCount', WHERE WHAT IT READS IS OF BULK AT MOST 1048576: true; the input reads as it did. -/
def setsCountUptoRow : OpenClaim := { program := "ytfdkbhbnldcbmaa", sum := "b9c2eb29d915c0582c020533d8e1dac3306ade7b3abdf669ceec6f50822dd50e", func := "scriptshift/scriptlaw2.SetsCount", spec := "setsCount", unfollowed := true, recurses := true, apart := false, narrowed := true }
def SetsCountUptoSaid : Prop := setsCountUptoRow.holds Try.pinned (OpenSpec.upto setsCountSpec)

/-- 'scriptlaw9.AnalyseTells', WHERE WHAT IT READS IS OF BULK AT MOST 1048576: true; the input reads as it did. -/
def analyseTellsUptoRow : OpenClaim := { program := "ytfdkbhbnldcbmaa", sum := "b9c2eb29d915c0582c020533d8e1dac3306ade7b3abdf669ceec6f50822dd50e", func := "scriptshift/scriptlaw9.AnalyseTells", spec := "analyseTells", unfollowed := true, recurses := true, apart := false, narrowed := true }
def AnalyseTellsUptoSaid : Prop := analyseTellsUptoRow.holds Try.pinned (OpenSpec.upto analyseTellsSpec)

/-- 'scriptlaw9.AnalyseFirsts', WHERE WHAT IT READS IS OF BULK AT MOST 1048576: true; the input reads as it did. -/
def analyseFirstsUptoRow : OpenClaim := { program := "ytfdkbhbnldcbmaa", sum := "b9c2eb29d915c0582c020533d8e1dac3306ade7b3abdf669ceec6f50822dd50e", func := "scriptshift/scriptlaw9.AnalyseFirsts", spec := "analyseFirsts", unfollowed := true, recurses := true, apart := false, narrowed := true }
def AnalyseFirstsUptoSaid : Prop := analyseFirstsUptoRow.holds Try.pinned (OpenSpec.upto analyseFirstsSpec)

/-- 'scriptlaw9.AnalyseSteady', WHERE WHAT IT READS IS OF BULK AT MOST 1048576: true; the input reads as it did. -/
def analyseSteadyUptoRow : OpenClaim := { program := "ytfdkbhbnldcbmaa", sum := "b9c2eb29d915c0582c020533d8e1dac3306ade7b3abdf669ceec6f50822dd50e", func := "scriptshift/scriptlaw9.AnalyseSteady", spec := "analyseSteady", unfollowed := true, recurses := true, apart := false, narrowed := true }
def AnalyseSteadyUptoSaid : Prop := analyseSteadyUptoRow.holds Try.pinned (OpenSpec.upto analyseSteadySpec)

end Rows
end Go.Proofs.Ytfdkbhbnldcbmaa
