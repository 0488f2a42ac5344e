/-
  DERIVED. GIVEN WITH THE SEED: THE CARDS: each row of YtfcjpkkglffnmaaGreatDoorRows.lean that lists a variable, with what it lists TIED to the program's text (the seventh form; the later family's looks); each row that meets fmt, with fmt's text TOLD by the authors' own Lean function (tested against real Go, not proved from fmt's source: count such statements apart). THE CARD IS WHAT COUNTS. Prove the row's statement (the work); the ties are given (YtfcjpkkglffnmaaGreatDoorTie.lean); close each card by the builder's one call (the guide's Derived/Test/ToyasCard.lean, 'card_holds'). Laid BY PROGRAM, IN A SANDBOX (cutbox-door.mjs). By AI agents, Wed Nov 11 2026. No macro, syntax, notation, axiom, sorry.
-/
import Derived.Test.YtfcjpkkglffnmaaGreatDoorRows
import GoSem.ClaimSeven
namespace Go.Proofs.YtfcjpkkglffnmaaGreatDoor
namespace Rows

/-- THE TIED CARD OF 'trammellaw6.Scopes'. -/
def scopesCard : Claim7 := { stood := { row := scopesRow, standIns := [], harness := (true, "35609afe184284883c2ef83cc6b370ffd1a40c5b7ab78c90876afc6d68d21907"), looks := true }, kinds := [], alts := [], laidByText := true, laidKinds := [.data, .handle, .pinned], laidTests := true, laidLooks := .later }
def ScopesCardSaid : Prop := Claim7.holds Tryz.pinned (.plain (OpenSpec.ofChange scopesSpec)) scopesCard

/-- THE SECOND FORM's CARD OF 'trammellaw6.Scopes'. -/
def scopesUptoCard : Claim7 := { stood := { row := scopesUptoRow, standIns := [], harness := (true, "35609afe184284883c2ef83cc6b370ffd1a40c5b7ab78c90876afc6d68d21907"), looks := true }, kinds := [], alts := [], laidByText := true, laidKinds := [.data, .handle, .pinned], laidTests := true, laidLooks := .later }
def ScopesUptoCardSaid : Prop := Claim7.holds Tryz.pinned (.plain (OpenSpec.upto scopesSpec)) scopesUptoCard
end Rows
end Go.Proofs.YtfcjpkkglffnmaaGreatDoor
