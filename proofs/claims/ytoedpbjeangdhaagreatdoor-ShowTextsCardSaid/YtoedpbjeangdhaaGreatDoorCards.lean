/-
  DERIVED. GIVEN WITH THE SEED: THE CARDS: each row of YtoedpbjeangdhaaGreatDoorRows.lean that lists a variable, with what it lists TIED to the program's text (the seventh form; the later family's looks); each row that meets fmt, with fmt's text TOLD by the authors' own Lean function (tested against real Go, not proved from fmt's source: count such statements apart). THE CARD IS WHAT COUNTS. Prove the row's statement (the work); the ties are given (YtoedpbjeangdhaaGreatDoorTie.lean); close each card by the builder's one call (the guide's Derived/Test/ToyasCard.lean, 'card_holds'). Laid BY PROGRAM, IN A SANDBOX (cutbox-door.mjs). By AI agents, Wed Nov 11 2026. No macro, syntax, notation, axiom, sorry.
-/
import Derived.Test.YtoedpbjeangdhaaGreatDoorRows
import GoSem.ClaimSeven
namespace Go.Proofs.YtoedpbjeangdhaaGreatDoor
namespace Rows

/-- THE TIED CARD OF 'trammellaw5.ShowTexts'. -/
def showTextsCard : Claim7 := { stood := { row := showTextsRow, standIns := [], harness := (true, "d49d1ce956d83e60e3d01c761b9329ea81071a567d115c6eba32e7e670f78fc7"), looks := true }, kinds := [], alts := [], laidByText := true, laidKinds := [.data, .data, .data, .data, .handle, .pinned], laidTests := true, laidLooks := .later }
def ShowTextsCardSaid : Prop := Claim7.holds Tryz.pinned (.plain (OpenSpec.ofChange showTextsSpec)) showTextsCard

/-- THE TIED CARD OF 'trammellaw13.InferTexts'. -/
def inferTextsCard : Claim7 := { stood := { row := inferTextsRow, standIns := [], harness := (true, "d49d1ce956d83e60e3d01c761b9329ea81071a567d115c6eba32e7e670f78fc7"), looks := true }, kinds := [], alts := [], laidByText := true, laidKinds := [.data, .data, .data, .data, .handle, .pinned], laidTests := true, laidLooks := .later }
def InferTextsCardSaid : Prop := Claim7.holds Tryz.pinned (.plain (OpenSpec.ofChange inferTextsSpec)) inferTextsCard

/-- THE TIED CARD OF 'trammellaw13.InferWrong'. -/
def inferWrongCard : Claim7 := { stood := { row := inferWrongRow, standIns := [], harness := (true, "d49d1ce956d83e60e3d01c761b9329ea81071a567d115c6eba32e7e670f78fc7"), looks := true }, kinds := [], alts := [], laidByText := true, laidKinds := [.data, .data, .data, .data, .handle, .pinned], laidTests := true, laidLooks := .later }
def InferWrongCardSaid : Prop := Claim7.holds Tryz.pinned (.plain (OpenSpec.ofChange inferWrongSpec)) inferWrongCard

/-- THE SECOND FORM's CARD OF 'trammellaw5.ShowTexts'. -/
def showTextsUptoCard : Claim7 := { stood := { row := showTextsUptoRow, standIns := [], harness := (true, "d49d1ce956d83e60e3d01c761b9329ea81071a567d115c6eba32e7e670f78fc7"), looks := true }, kinds := [], alts := [], laidByText := true, laidKinds := [.data, .data, .data, .data, .handle, .pinned], laidTests := true, laidLooks := .later }
def ShowTextsUptoCardSaid : Prop := Claim7.holds Tryz.pinned (.plain (OpenSpec.upto showTextsSpec)) showTextsUptoCard

/-- THE SECOND FORM's CARD OF 'trammellaw13.InferTexts'. -/
def inferTextsUptoCard : Claim7 := { stood := { row := inferTextsUptoRow, standIns := [], harness := (true, "d49d1ce956d83e60e3d01c761b9329ea81071a567d115c6eba32e7e670f78fc7"), looks := true }, kinds := [], alts := [], laidByText := true, laidKinds := [.data, .data, .data, .data, .handle, .pinned], laidTests := true, laidLooks := .later }
def InferTextsUptoCardSaid : Prop := Claim7.holds Tryz.pinned (.plain (OpenSpec.upto inferTextsSpec)) inferTextsUptoCard

/-- THE SECOND FORM's CARD OF 'trammellaw13.InferWrong'. -/
def inferWrongUptoCard : Claim7 := { stood := { row := inferWrongUptoRow, standIns := [], harness := (true, "d49d1ce956d83e60e3d01c761b9329ea81071a567d115c6eba32e7e670f78fc7"), looks := true }, kinds := [], alts := [], laidByText := true, laidKinds := [.data, .data, .data, .data, .handle, .pinned], laidTests := true, laidLooks := .later }
def InferWrongUptoCardSaid : Prop := Claim7.holds Tryz.pinned (.plain (OpenSpec.upto inferWrongSpec)) inferWrongUptoCard
end Rows
end Go.Proofs.YtoedpbjeangdhaaGreatDoor
