/-
  DERIVED. GIVEN WITH THE SEED: THE CARDS: each row of YtjiefihmlhpcmaaDoorRows.lean that lists a variable, with what it lists TIED to the program's text (the seventh form; the later family's looks); each row that meets fmt, with fmt's text TOLD by the authors' own Lean function (tested against real Go, not proved from fmt's source: count such statements apart). THE CARD IS WHAT COUNTS. Prove the row's statement (the work); the ties are given (YtjiefihmlhpcmaaDoorTie.lean); close each card by the builder's one call (the guide's Derived/Test/ToyasCard.lean, 'card_holds'). Laid BY PROGRAM, IN A SANDBOX (cutbox-door.mjs). By AI agents, Wed Nov 11 2026. No macro, syntax, notation, axiom, sorry.
-/
import Derived.Test.YtjiefihmlhpcmaaDoorRows
import GoSem.ClaimSeven
namespace Go.Proofs.YtjiefihmlhpcmaaDoor
namespace Rows

/-- THE TIED CARD OF 'trammellaw5.ShowForms'. -/
def showFormsCard : Claim7 := { stood := { row := showFormsRow, standIns := [], harness := (true, "987dbb26e7904a19597cd55e15c670161161fea2a71c12888ee05d15b924ddae"), looks := false }, kinds := [], alts := [], laidByText := true, laidKinds := [.data, .data, .data, .data, .pinned], laidTests := true, laidLooks := .later }
def ShowFormsCardSaid : Prop := Claim7.holds Tryd.pinned (.plain (OpenSpec.ofChange showFormsSpec)) showFormsCard

/-- THE SECOND FORM's CARD OF 'trammellaw5.ShowForms'. -/
def showFormsUptoCard : Claim7 := { stood := { row := showFormsUptoRow, standIns := [], harness := (true, "987dbb26e7904a19597cd55e15c670161161fea2a71c12888ee05d15b924ddae"), looks := false }, kinds := [], alts := [], laidByText := true, laidKinds := [.data, .data, .data, .data, .pinned], laidTests := true, laidLooks := .later }
def ShowFormsUptoCardSaid : Prop := Claim7.holds Tryd.pinned (.plain (OpenSpec.upto showFormsSpec)) showFormsUptoCard
end Rows
end Go.Proofs.YtjiefihmlhpcmaaDoor
