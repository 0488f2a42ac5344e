/-
  DERIVED. GIVEN WITH THE SEED: THE CARDS: each row of YtfcjpkkglffnmaaDoorRows.lean that lists a variable, with what it lists TIED to the program's text (the seventh form; the later family's looks); each row that meets fmt, with fmt's text TOLD by the authors' own Lean function (tested against real Go, not proved from fmt's source: count such statements apart). THE CARD IS WHAT COUNTS. Prove the row's statement (the work); the ties are given (YtfcjpkkglffnmaaDoorTie.lean); close each card by the builder's one call (the guide's Derived/Test/ToyasCard.lean, 'card_holds'). Laid BY PROGRAM, IN A SANDBOX (cutbox-door.mjs). By AI agents, Wed Nov 11 2026. No macro, syntax, notation, axiom, sorry.
-/
import Derived.Test.YtfcjpkkglffnmaaDoorRows
import GoSem.ClaimSeven
namespace Go.Proofs.YtfcjpkkglffnmaaDoor
namespace Rows

/-- THE TIED CARD OF 'trammellaw6.ScopeShape'. -/
def scopeShapeCard : Claim7 := { stood := { row := scopeShapeRow, standIns := [], harness := (true, "775497a27d2aee93805e5f5b07ed7f7be03203070bf6eedb047092b80216c256"), looks := true }, kinds := [], alts := [], laidByText := true, laidKinds := [.data, .handle, .pinned], laidTests := true, laidLooks := .later }
def ScopeShapeCardSaid : Prop := Claim7.holds Tryd.pinned (.plain (OpenSpec.ofChange scopeShapeSpec)) scopeShapeCard

/-- THE TIED CARD OF 'trammellaw6.ScopeNames'. -/
def scopeNamesCard : Claim7 := { stood := { row := scopeNamesRow, standIns := [], harness := (true, "775497a27d2aee93805e5f5b07ed7f7be03203070bf6eedb047092b80216c256"), looks := true }, kinds := [], alts := [], laidByText := true, laidKinds := [.data, .handle, .pinned], laidTests := true, laidLooks := .later }
def ScopeNamesCardSaid : Prop := Claim7.holds Tryd.pinned (.plain (OpenSpec.ofChange scopeNamesSpec)) scopeNamesCard

/-- THE TIED CARD OF 'trammellaw6.ScopeIndex'. -/
def scopeIndexCard : Claim7 := { stood := { row := scopeIndexRow, standIns := [], harness := (true, "775497a27d2aee93805e5f5b07ed7f7be03203070bf6eedb047092b80216c256"), looks := true }, kinds := [], alts := [], laidByText := true, laidKinds := [.data, .handle, .pinned], laidTests := true, laidLooks := .later }
def ScopeIndexCardSaid : Prop := Claim7.holds Tryd.pinned (.plain (OpenSpec.ofChange scopeIndexSpec)) scopeIndexCard

/-- THE TIED CARD OF 'trammellaw6.ScopeForms'. -/
def scopeFormsCard : Claim7 := { stood := { row := scopeFormsRow, standIns := [], harness := (true, "775497a27d2aee93805e5f5b07ed7f7be03203070bf6eedb047092b80216c256"), looks := true }, kinds := [], alts := [], laidByText := true, laidKinds := [.data, .handle, .pinned], laidTests := true, laidLooks := .later }
def ScopeFormsCardSaid : Prop := Claim7.holds Tryd.pinned (.plain (OpenSpec.ofChange scopeFormsSpec)) scopeFormsCard

/-- THE SECOND FORM's CARD OF 'trammellaw6.ScopeShape'. -/
def scopeShapeUptoCard : Claim7 := { stood := { row := scopeShapeUptoRow, standIns := [], harness := (true, "775497a27d2aee93805e5f5b07ed7f7be03203070bf6eedb047092b80216c256"), looks := true }, kinds := [], alts := [], laidByText := true, laidKinds := [.data, .handle, .pinned], laidTests := true, laidLooks := .later }
def ScopeShapeUptoCardSaid : Prop := Claim7.holds Tryd.pinned (.plain (OpenSpec.upto scopeShapeSpec)) scopeShapeUptoCard

/-- THE SECOND FORM's CARD OF 'trammellaw6.ScopeNames'. -/
def scopeNamesUptoCard : Claim7 := { stood := { row := scopeNamesUptoRow, standIns := [], harness := (true, "775497a27d2aee93805e5f5b07ed7f7be03203070bf6eedb047092b80216c256"), looks := true }, kinds := [], alts := [], laidByText := true, laidKinds := [.data, .handle, .pinned], laidTests := true, laidLooks := .later }
def ScopeNamesUptoCardSaid : Prop := Claim7.holds Tryd.pinned (.plain (OpenSpec.upto scopeNamesSpec)) scopeNamesUptoCard

/-- THE SECOND FORM's CARD OF 'trammellaw6.ScopeIndex'. -/
def scopeIndexUptoCard : Claim7 := { stood := { row := scopeIndexUptoRow, standIns := [], harness := (true, "775497a27d2aee93805e5f5b07ed7f7be03203070bf6eedb047092b80216c256"), looks := true }, kinds := [], alts := [], laidByText := true, laidKinds := [.data, .handle, .pinned], laidTests := true, laidLooks := .later }
def ScopeIndexUptoCardSaid : Prop := Claim7.holds Tryd.pinned (.plain (OpenSpec.upto scopeIndexSpec)) scopeIndexUptoCard

/-- THE SECOND FORM's CARD OF 'trammellaw6.ScopeForms'. -/
def scopeFormsUptoCard : Claim7 := { stood := { row := scopeFormsUptoRow, standIns := [], harness := (true, "775497a27d2aee93805e5f5b07ed7f7be03203070bf6eedb047092b80216c256"), looks := true }, kinds := [], alts := [], laidByText := true, laidKinds := [.data, .handle, .pinned], laidTests := true, laidLooks := .later }
def ScopeFormsUptoCardSaid : Prop := Claim7.holds Tryd.pinned (.plain (OpenSpec.upto scopeFormsSpec)) scopeFormsUptoCard
end Rows
end Go.Proofs.YtfcjpkkglffnmaaDoor
