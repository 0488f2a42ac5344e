/-
  DERIVED. GIVEN WITH THE SEED: THE CARDS: each row of YtoedpbjeangdhaaDoorRows.lean that lists a variable, with what it lists TIED to the program's text (the seventh form; the later family's looks); each row that meets fmt, with fmt's text TOLD by the authors' own Lean function (tested against real Go, not proved from fmt's source: count such statements apart). THE CARD IS WHAT COUNTS. Prove the row's statement (the work); the ties are given (YtoedpbjeangdhaaDoorTie.lean); close each card by the builder's one call (the guide's Derived/Test/ToyasCard.lean, 'card_holds'). Laid BY PROGRAM, IN A SANDBOX (cutbox-door.mjs). By AI agents, Wed Nov 11 2026. No macro, syntax, notation, axiom, sorry.
-/
import Derived.Test.YtoedpbjeangdhaaDoorRows
import GoSem.ClaimSeven
namespace Go.Proofs.YtoedpbjeangdhaaDoor
namespace Rows

/-- THE TIED CARD OF 'trammellaw4.ParseDeep'. -/
def parseDeepCard : Claim7 := { stood := { row := parseDeepRow, standIns := [], harness := (true, "e1e95bd123efa88cd6450c2e80fcc305f2249e815ac447ae8a457f4b59ff5f96"), looks := true }, kinds := [], alts := [], laidByText := true, laidKinds := [.data, .handle, .pinned], laidTests := true, laidLooks := .later }
def ParseDeepCardSaid : Prop := Claim7.holds Tryd.pinned (.plain (OpenSpec.ofChange parseDeepSpec)) parseDeepCard

/-- THE TIED CARD OF 'trammellaw4.ParseMany'. -/
def parseManyCard : Claim7 := { stood := { row := parseManyRow, standIns := [], harness := (true, "e1e95bd123efa88cd6450c2e80fcc305f2249e815ac447ae8a457f4b59ff5f96"), looks := true }, kinds := [], alts := [], laidByText := true, laidKinds := [.data, .handle, .pinned], laidTests := true, laidLooks := .later }
def ParseManyCardSaid : Prop := Claim7.holds Tryd.pinned (.plain (OpenSpec.ofChange parseManySpec)) parseManyCard

/-- THE SECOND FORM's CARD OF 'trammellaw4.ParseDeep'. -/
def parseDeepUptoCard : Claim7 := { stood := { row := parseDeepUptoRow, standIns := [], harness := (true, "e1e95bd123efa88cd6450c2e80fcc305f2249e815ac447ae8a457f4b59ff5f96"), looks := true }, kinds := [], alts := [], laidByText := true, laidKinds := [.data, .handle, .pinned], laidTests := true, laidLooks := .later }
def ParseDeepUptoCardSaid : Prop := Claim7.holds Tryd.pinned (.plain (OpenSpec.upto parseDeepSpec)) parseDeepUptoCard

/-- THE SECOND FORM's CARD OF 'trammellaw4.ParseMany'. -/
def parseManyUptoCard : Claim7 := { stood := { row := parseManyUptoRow, standIns := [], harness := (true, "e1e95bd123efa88cd6450c2e80fcc305f2249e815ac447ae8a457f4b59ff5f96"), looks := true }, kinds := [], alts := [], laidByText := true, laidKinds := [.data, .handle, .pinned], laidTests := true, laidLooks := .later }
def ParseManyUptoCardSaid : Prop := Claim7.holds Tryd.pinned (.plain (OpenSpec.upto parseManySpec)) parseManyUptoCard
end Rows
end Go.Proofs.YtoedpbjeangdhaaDoor
