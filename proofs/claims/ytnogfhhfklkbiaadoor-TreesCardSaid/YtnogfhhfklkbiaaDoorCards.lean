/-
  DERIVED. GIVEN WITH THE SEED: THE CARDS: each row of YtnogfhhfklkbiaaDoorRows.lean that lists a variable, with what it lists TIED to the program's text (the seventh form; the later family's looks); each row that meets fmt, with fmt's text TOLD by the authors' own Lean function (tested against real Go, not proved from fmt's source: count such statements apart). THE CARD IS WHAT COUNTS. Prove the row's statement (the work); the ties are given (YtnogfhhfklkbiaaDoorTie.lean); close each card by the builder's one call (the guide's Derived/Test/ToyasCard.lean, 'card_holds'). Laid BY PROGRAM, IN A SANDBOX (cutbox-door.mjs). By AI agents, Wed Nov 11 2026. No macro, syntax, notation, axiom, sorry.
-/
import Derived.Test.YtnogfhhfklkbiaaDoorRows
import GoSem.ClaimSeven
namespace Go.Proofs.YtnogfhhfklkbiaaDoor
namespace Rows

/-- THE TIED CARD OF 'trammellaw3.Trees'. -/
def treesCard : Claim7 := { stood := { row := treesRow, standIns := [], harness := (true, "1ed86140748eb5df34d944b8a08d870a7aa3d5b7003432c32f212ffccbbeab7f"), looks := true }, kinds := [], alts := [], laidByText := true, laidKinds := [.data, .pinned], laidTests := true, laidLooks := .later }
def TreesCardSaid : Prop := Claim7.holds Tryd.pinned (.plain (OpenSpec.ofChange treesSpec)) treesCard

/-- THE TIED CARD OF 'trammellaw3.TreeParts'. -/
def treePartsCard : Claim7 := { stood := { row := treePartsRow, standIns := [], harness := (true, "1ed86140748eb5df34d944b8a08d870a7aa3d5b7003432c32f212ffccbbeab7f"), looks := true }, kinds := [], alts := [], laidByText := true, laidKinds := [.data, .pinned], laidTests := true, laidLooks := .later }
def TreePartsCardSaid : Prop := Claim7.holds Tryd.pinned (.plain (OpenSpec.ofChange treePartsSpec)) treePartsCard

/-- THE TIED CARD OF 'trammellaw3.TreeForms'. -/
def treeFormsCard : Claim7 := { stood := { row := treeFormsRow, standIns := [], harness := (true, "1ed86140748eb5df34d944b8a08d870a7aa3d5b7003432c32f212ffccbbeab7f"), looks := true }, kinds := [], alts := [], laidByText := true, laidKinds := [.data, .pinned], laidTests := true, laidLooks := .later }
def TreeFormsCardSaid : Prop := Claim7.holds Tryd.pinned (.plain (OpenSpec.ofChange treeFormsSpec)) treeFormsCard

/-- THE TIED CARD OF 'trammellaw3.TreeChain'. -/
def treeChainCard : Claim7 := { stood := { row := treeChainRow, standIns := [], harness := (true, "1ed86140748eb5df34d944b8a08d870a7aa3d5b7003432c32f212ffccbbeab7f"), looks := true }, kinds := [], alts := [], laidByText := true, laidKinds := [.data, .pinned], laidTests := true, laidLooks := .later }
def TreeChainCardSaid : Prop := Claim7.holds Tryd.pinned (.plain (OpenSpec.ofChange treeChainSpec)) treeChainCard

/-- THE TIED CARD OF 'trammellaw2.Lexes'. -/
def lexesCard : Claim7 := { stood := { row := lexesRow, standIns := [], harness := (true, "1ed86140748eb5df34d944b8a08d870a7aa3d5b7003432c32f212ffccbbeab7f"), looks := true }, kinds := [], alts := [], laidByText := true, laidKinds := [.data, .handle, .pinned], laidTests := true, laidLooks := .later }
def LexesCardSaid : Prop := Claim7.holds Tryd.pinned (.plain (OpenSpec.ofChange lexesSpec)) lexesCard

/-- THE TIED CARD OF 'trammellaw2.LexRises'. -/
def lexRisesCard : Claim7 := { stood := { row := lexRisesRow, standIns := [], harness := (true, "1ed86140748eb5df34d944b8a08d870a7aa3d5b7003432c32f212ffccbbeab7f"), looks := true }, kinds := [], alts := [], laidByText := true, laidKinds := [.data, .handle, .pinned], laidTests := true, laidLooks := .later }
def LexRisesCardSaid : Prop := Claim7.holds Tryd.pinned (.plain (OpenSpec.ofChange lexRisesSpec)) lexRisesCard

/-- THE TIED CARD OF 'trammellaw2.LexParts'. -/
def lexPartsCard : Claim7 := { stood := { row := lexPartsRow, standIns := [], harness := (true, "1ed86140748eb5df34d944b8a08d870a7aa3d5b7003432c32f212ffccbbeab7f"), looks := true }, kinds := [], alts := [], laidByText := true, laidKinds := [.data, .handle, .pinned], laidTests := true, laidLooks := .later }
def LexPartsCardSaid : Prop := Claim7.holds Tryd.pinned (.plain (OpenSpec.ofChange lexPartsSpec)) lexPartsCard

/-- THE TIED CARD OF 'trammellaw2.LexWords'. -/
def lexWordsCard : Claim7 := { stood := { row := lexWordsRow, standIns := [], harness := (true, "1ed86140748eb5df34d944b8a08d870a7aa3d5b7003432c32f212ffccbbeab7f"), looks := true }, kinds := [], alts := [], laidByText := true, laidKinds := [.data, .handle, .pinned], laidTests := true, laidLooks := .later }
def LexWordsCardSaid : Prop := Claim7.holds Tryd.pinned (.plain (OpenSpec.ofChange lexWordsSpec)) lexWordsCard

/-- THE TIED CARD OF 'trammellaw2.LexNumbers'. -/
def lexNumbersCard : Claim7 := { stood := { row := lexNumbersRow, standIns := [], harness := (true, "1ed86140748eb5df34d944b8a08d870a7aa3d5b7003432c32f212ffccbbeab7f"), looks := true }, kinds := [], alts := [], laidByText := true, laidKinds := [.data, .handle, .pinned], laidTests := true, laidLooks := .later }
def LexNumbersCardSaid : Prop := Claim7.holds Tryd.pinned (.plain (OpenSpec.ofChange lexNumbersSpec)) lexNumbersCard

/-- THE TIED CARD OF 'trammellaw2.LexNames'. -/
def lexNamesCard : Claim7 := { stood := { row := lexNamesRow, standIns := [], harness := (true, "1ed86140748eb5df34d944b8a08d870a7aa3d5b7003432c32f212ffccbbeab7f"), looks := true }, kinds := [], alts := [], laidByText := true, laidKinds := [.data, .handle, .pinned], laidTests := true, laidLooks := .later }
def LexNamesCardSaid : Prop := Claim7.holds Tryd.pinned (.plain (OpenSpec.ofChange lexNamesSpec)) lexNamesCard

/-- THE SECOND FORM's CARD OF 'trammellaw3.Trees'. -/
def treesUptoCard : Claim7 := { stood := { row := treesUptoRow, standIns := [], harness := (true, "1ed86140748eb5df34d944b8a08d870a7aa3d5b7003432c32f212ffccbbeab7f"), looks := true }, kinds := [], alts := [], laidByText := true, laidKinds := [.data, .pinned], laidTests := true, laidLooks := .later }
def TreesUptoCardSaid : Prop := Claim7.holds Tryd.pinned (.plain (OpenSpec.upto treesSpec)) treesUptoCard

/-- THE SECOND FORM's CARD OF 'trammellaw3.TreeParts'. -/
def treePartsUptoCard : Claim7 := { stood := { row := treePartsUptoRow, standIns := [], harness := (true, "1ed86140748eb5df34d944b8a08d870a7aa3d5b7003432c32f212ffccbbeab7f"), looks := true }, kinds := [], alts := [], laidByText := true, laidKinds := [.data, .pinned], laidTests := true, laidLooks := .later }
def TreePartsUptoCardSaid : Prop := Claim7.holds Tryd.pinned (.plain (OpenSpec.upto treePartsSpec)) treePartsUptoCard

/-- THE SECOND FORM's CARD OF 'trammellaw3.TreeForms'. -/
def treeFormsUptoCard : Claim7 := { stood := { row := treeFormsUptoRow, standIns := [], harness := (true, "1ed86140748eb5df34d944b8a08d870a7aa3d5b7003432c32f212ffccbbeab7f"), looks := true }, kinds := [], alts := [], laidByText := true, laidKinds := [.data, .pinned], laidTests := true, laidLooks := .later }
def TreeFormsUptoCardSaid : Prop := Claim7.holds Tryd.pinned (.plain (OpenSpec.upto treeFormsSpec)) treeFormsUptoCard

/-- THE SECOND FORM's CARD OF 'trammellaw3.TreeChain'. -/
def treeChainUptoCard : Claim7 := { stood := { row := treeChainUptoRow, standIns := [], harness := (true, "1ed86140748eb5df34d944b8a08d870a7aa3d5b7003432c32f212ffccbbeab7f"), looks := true }, kinds := [], alts := [], laidByText := true, laidKinds := [.data, .pinned], laidTests := true, laidLooks := .later }
def TreeChainUptoCardSaid : Prop := Claim7.holds Tryd.pinned (.plain (OpenSpec.upto treeChainSpec)) treeChainUptoCard

/-- THE SECOND FORM's CARD OF 'trammellaw2.Lexes'. -/
def lexesUptoCard : Claim7 := { stood := { row := lexesUptoRow, standIns := [], harness := (true, "1ed86140748eb5df34d944b8a08d870a7aa3d5b7003432c32f212ffccbbeab7f"), looks := true }, kinds := [], alts := [], laidByText := true, laidKinds := [.data, .handle, .pinned], laidTests := true, laidLooks := .later }
def LexesUptoCardSaid : Prop := Claim7.holds Tryd.pinned (.plain (OpenSpec.upto lexesSpec)) lexesUptoCard

/-- THE SECOND FORM's CARD OF 'trammellaw2.LexRises'. -/
def lexRisesUptoCard : Claim7 := { stood := { row := lexRisesUptoRow, standIns := [], harness := (true, "1ed86140748eb5df34d944b8a08d870a7aa3d5b7003432c32f212ffccbbeab7f"), looks := true }, kinds := [], alts := [], laidByText := true, laidKinds := [.data, .handle, .pinned], laidTests := true, laidLooks := .later }
def LexRisesUptoCardSaid : Prop := Claim7.holds Tryd.pinned (.plain (OpenSpec.upto lexRisesSpec)) lexRisesUptoCard

/-- THE SECOND FORM's CARD OF 'trammellaw2.LexParts'. -/
def lexPartsUptoCard : Claim7 := { stood := { row := lexPartsUptoRow, standIns := [], harness := (true, "1ed86140748eb5df34d944b8a08d870a7aa3d5b7003432c32f212ffccbbeab7f"), looks := true }, kinds := [], alts := [], laidByText := true, laidKinds := [.data, .handle, .pinned], laidTests := true, laidLooks := .later }
def LexPartsUptoCardSaid : Prop := Claim7.holds Tryd.pinned (.plain (OpenSpec.upto lexPartsSpec)) lexPartsUptoCard

/-- THE SECOND FORM's CARD OF 'trammellaw2.LexWords'. -/
def lexWordsUptoCard : Claim7 := { stood := { row := lexWordsUptoRow, standIns := [], harness := (true, "1ed86140748eb5df34d944b8a08d870a7aa3d5b7003432c32f212ffccbbeab7f"), looks := true }, kinds := [], alts := [], laidByText := true, laidKinds := [.data, .handle, .pinned], laidTests := true, laidLooks := .later }
def LexWordsUptoCardSaid : Prop := Claim7.holds Tryd.pinned (.plain (OpenSpec.upto lexWordsSpec)) lexWordsUptoCard

/-- THE SECOND FORM's CARD OF 'trammellaw2.LexNumbers'. -/
def lexNumbersUptoCard : Claim7 := { stood := { row := lexNumbersUptoRow, standIns := [], harness := (true, "1ed86140748eb5df34d944b8a08d870a7aa3d5b7003432c32f212ffccbbeab7f"), looks := true }, kinds := [], alts := [], laidByText := true, laidKinds := [.data, .handle, .pinned], laidTests := true, laidLooks := .later }
def LexNumbersUptoCardSaid : Prop := Claim7.holds Tryd.pinned (.plain (OpenSpec.upto lexNumbersSpec)) lexNumbersUptoCard

/-- THE SECOND FORM's CARD OF 'trammellaw2.LexNames'. -/
def lexNamesUptoCard : Claim7 := { stood := { row := lexNamesUptoRow, standIns := [], harness := (true, "1ed86140748eb5df34d944b8a08d870a7aa3d5b7003432c32f212ffccbbeab7f"), looks := true }, kinds := [], alts := [], laidByText := true, laidKinds := [.data, .handle, .pinned], laidTests := true, laidLooks := .later }
def LexNamesUptoCardSaid : Prop := Claim7.holds Tryd.pinned (.plain (OpenSpec.upto lexNamesSpec)) lexNamesUptoCard
end Rows
end Go.Proofs.YtnogfhhfklkbiaaDoor
