/-
  No cell of these rows narrows 'for every input' (looked for: loops, veiled, ifaces, maps, wideKeys, modest, calm, conditions, laid).
  DERIVED. THE GIVEN ROWS OF THIS SEAT. 5 by the template 'for every input the law returns true; each argument reads behind the call as it read before'; 0 by the template 'total and deterministic' (their statements: YtppajbkfkhehdaaTotals.lean).
  GIVEN WITH THE SEED: the statements are not yours to turn. If you find one false, say at which input.
  Laid BY PROGRAM, IN A SANDBOX (cutbox-rows.mjs): the forced cells as the released guide's own fill.sh prints them over the translation c42bffc9d17fd863… (all of the seat's roots in one cut). By AI agents, Wed Nov 11 2026. No macro, syntax, notation, axiom, sorry.
-/
import Derived.Test.YtppajbkfkhehdaaChecked
import GoSem.Claim
import GoSem.ClaimJoined
import GoSem.ClaimMapViews
import Derived.JoinedTies
import Derived.KernelRfl
namespace Go.Proofs.Ytppajbkfkhehdaa
/- THE CELL 'sum', in the pinned program and in every row, IS THE sha256 OF THE DUMP (.gsa) THAT YtppajbkfkhehdaaProg.lean LOADS. Nothing in Lean hashes anything: it is a label: what it is worth is what the hold of that sum in a sandbox is worth. -/
noncomputable def Try.pinned : Pinned := { name := "ytppajbkfkhehdaa", sum := "c42bffc9d17fd8638536eee90ebe96dd5fac91e7fc57b026ea98bc44ab6f7ba0", checked := Try.checked }
namespace Rows
def none {H : Type} : Left H := { results := [], args := [] }

/-- 'trammellaw1.Sources': WHATEVER THE INPUT: true; the input reads as it did. -/
def sourcesSpec : ChangeSpec := { name := "sources", fn := fun _ => fun
  | [d1, d2] => { results := [.lit (.bool true)], args := [d1, d2] }
  | _ => none }
def sourcesRow : OpenClaim := { program := "ytppajbkfkhehdaa", sum := "c42bffc9d17fd8638536eee90ebe96dd5fac91e7fc57b026ea98bc44ab6f7ba0", func := "trammel/trammellaw1.Sources", spec := "sources", apart := false }
def SourcesSaid : Prop := sourcesRow.holds Try.pinned (OpenSpec.ofChange sourcesSpec)

/-- ITS FALSE NEIGHBOUR: 'it returns false'. Refute it at one input. -/
def sourcesWrong : ChangeSpec := { name := "sources", fn := fun _ => fun
  | [d1, d2] => { results := [.lit (.bool false)], args := [d1, d2] }
  | _ => none }
def SourcesWrongFalsely : Prop := sourcesRow.holds Try.pinned (OpenSpec.ofChange sourcesWrong)

/-- 'trammellaw1.SourceParts': WHATEVER THE INPUT: true; the input reads as it did. -/
def sourcePartsSpec : ChangeSpec := { name := "sourceParts", fn := fun _ => fun
  | [d1, d2] => { results := [.lit (.bool true)], args := [d1, d2] }
  | _ => none }
def sourcePartsRow : OpenClaim := { program := "ytppajbkfkhehdaa", sum := "c42bffc9d17fd8638536eee90ebe96dd5fac91e7fc57b026ea98bc44ab6f7ba0", func := "trammel/trammellaw1.SourceParts", spec := "sourceParts", apart := false }
def SourcePartsSaid : Prop := sourcePartsRow.holds Try.pinned (OpenSpec.ofChange sourcePartsSpec)

/-- ITS FALSE NEIGHBOUR: 'it returns false'. Refute it at one input. -/
def sourcePartsWrong : ChangeSpec := { name := "sourceParts", fn := fun _ => fun
  | [d1, d2] => { results := [.lit (.bool false)], args := [d1, d2] }
  | _ => none }
def SourcePartsWrongFalsely : Prop := sourcePartsRow.holds Try.pinned (OpenSpec.ofChange sourcePartsWrong)

/-- 'trammellaw1.SourceSigns': WHATEVER THE INPUT: true; the input reads as it did. -/
def sourceSignsSpec : ChangeSpec := { name := "sourceSigns", fn := fun _ => fun
  | [d] => { results := [.lit (.bool true)], args := [d] }
  | _ => none }
def sourceSignsRow : OpenClaim := { program := "ytppajbkfkhehdaa", sum := "c42bffc9d17fd8638536eee90ebe96dd5fac91e7fc57b026ea98bc44ab6f7ba0", func := "trammel/trammellaw1.SourceSigns", spec := "sourceSigns", apart := false }
def SourceSignsSaid : Prop := sourceSignsRow.holds Try.pinned (OpenSpec.ofChange sourceSignsSpec)

/-- ITS FALSE NEIGHBOUR: 'it returns false'. Refute it at one input. -/
def sourceSignsWrong : ChangeSpec := { name := "sourceSigns", fn := fun _ => fun
  | [d] => { results := [.lit (.bool false)], args := [d] }
  | _ => none }
def SourceSignsWrongFalsely : Prop := sourceSignsRow.holds Try.pinned (OpenSpec.ofChange sourceSignsWrong)

/-- 'trammellaw1.SourceForms': WHATEVER THE INPUT: true; the input reads as it did. -/
def sourceFormsSpec : ChangeSpec := { name := "sourceForms", fn := fun _ => fun
  | [d1, d2] => { results := [.lit (.bool true)], args := [d1, d2] }
  | _ => none }
def sourceFormsRow : OpenClaim := { program := "ytppajbkfkhehdaa", sum := "c42bffc9d17fd8638536eee90ebe96dd5fac91e7fc57b026ea98bc44ab6f7ba0", func := "trammel/trammellaw1.SourceForms", spec := "sourceForms", apart := false }
def SourceFormsSaid : Prop := sourceFormsRow.holds Try.pinned (OpenSpec.ofChange sourceFormsSpec)

/-- ITS FALSE NEIGHBOUR: 'it returns false'. Refute it at one input. -/
def sourceFormsWrong : ChangeSpec := { name := "sourceForms", fn := fun _ => fun
  | [d1, d2] => { results := [.lit (.bool false)], args := [d1, d2] }
  | _ => none }
def SourceFormsWrongFalsely : Prop := sourceFormsRow.holds Try.pinned (OpenSpec.ofChange sourceFormsWrong)

/-- 'trammellaw1.SourceWalk': WHATEVER THE INPUT: true; the input reads as it did. -/
def sourceWalkSpec : ChangeSpec := { name := "sourceWalk", fn := fun _ => fun
  | [d] => { results := [.lit (.bool true)], args := [d] }
  | _ => none }
def sourceWalkRow : OpenClaim := { program := "ytppajbkfkhehdaa", sum := "c42bffc9d17fd8638536eee90ebe96dd5fac91e7fc57b026ea98bc44ab6f7ba0", func := "trammel/trammellaw1.SourceWalk", spec := "sourceWalk", apart := false }
def SourceWalkSaid : Prop := sourceWalkRow.holds Try.pinned (OpenSpec.ofChange sourceWalkSpec)

/-- ITS FALSE NEIGHBOUR: 'it returns false'. Refute it at one input. -/
def sourceWalkWrong : ChangeSpec := { name := "sourceWalk", fn := fun _ => fun
  | [d] => { results := [.lit (.bool false)], args := [d] }
  | _ => none }
def SourceWalkWrongFalsely : Prop := sourceWalkRow.holds Try.pinned (OpenSpec.ofChange sourceWalkWrong)

/- THE SECOND FORM. 'bulk': how many values and letters a reading holds, each counted each time it is reached (what is shared counts as often as it is met; a slice's spare places count too). A statement '..UptoSaid' is the law's where the arguments, and the package variables that the reading takes, are together of bulk at most 1048576: NARROWER than '..Said'. Prove '..Said' where nothing that the law and all that it calls make is longer than what came in: it says more and counts as full. Else prove '..UptoSaid'. A law counts once. -/
mutual
def uptoBulk {H : Type} : DataW H → Nat
  | .lit (.string bytes) => bytes.length + 1
  | .lit _ => 1
  | .nil => 1
  | .ptr d => uptoBulk d + 1
  | .slice elems spare => uptoBulkAll elems + uptoBulkAll spare + 1
  | .agg parts => uptoBulkAll parts + 1
  | .iface _ d => uptoBulk d + 1
  | .map entries => uptoBulkEntries entries + 1
  | .held _ => 1
def uptoBulkAll {H : Type} : List (DataW H) → Nat
  | [] => 0
  | d :: r => uptoBulk d + uptoBulkAll r
def uptoBulkEntries {H : Type} : List (Lit × DataW H) → Nat
  | [] => 0
  | x :: r => uptoBulkEntry x + uptoBulkEntries r
def uptoBulkEntry {H : Type} : Lit × DataW H → Nat
  | (.string bytes, d) => bytes.length + uptoBulk d + 1
  | (_, d) => uptoBulk d + 1
 end
def uptoSmall : (H : Type) → List (DataW H) → Bool := fun _ ds => decide (uptoBulkAll ds ≤ 1048576)
def OpenSpec.upto (s : _root_.Go.ChangeSpec) : _root_.Go.OpenSpec := { _root_.Go.OpenSpec.ofChange s with cond := some uptoSmall }

/-- 'trammellaw1.Sources', WHERE WHAT IT READS IS OF BULK AT MOST 1048576: true; the input reads as it did. -/
def sourcesUptoRow : OpenClaim := { program := "ytppajbkfkhehdaa", sum := "c42bffc9d17fd8638536eee90ebe96dd5fac91e7fc57b026ea98bc44ab6f7ba0", func := "trammel/trammellaw1.Sources", spec := "sources", apart := false, narrowed := true }
def SourcesUptoSaid : Prop := sourcesUptoRow.holds Try.pinned (OpenSpec.upto sourcesSpec)

/-- 'trammellaw1.SourceParts', WHERE WHAT IT READS IS OF BULK AT MOST 1048576: true; the input reads as it did. -/
def sourcePartsUptoRow : OpenClaim := { program := "ytppajbkfkhehdaa", sum := "c42bffc9d17fd8638536eee90ebe96dd5fac91e7fc57b026ea98bc44ab6f7ba0", func := "trammel/trammellaw1.SourceParts", spec := "sourceParts", apart := false, narrowed := true }
def SourcePartsUptoSaid : Prop := sourcePartsUptoRow.holds Try.pinned (OpenSpec.upto sourcePartsSpec)

/-- 'trammellaw1.SourceSigns', WHERE WHAT IT READS IS OF BULK AT MOST 1048576: true; the input reads as it did. -/
def sourceSignsUptoRow : OpenClaim := { program := "ytppajbkfkhehdaa", sum := "c42bffc9d17fd8638536eee90ebe96dd5fac91e7fc57b026ea98bc44ab6f7ba0", func := "trammel/trammellaw1.SourceSigns", spec := "sourceSigns", apart := false, narrowed := true }
def SourceSignsUptoSaid : Prop := sourceSignsUptoRow.holds Try.pinned (OpenSpec.upto sourceSignsSpec)

/-- 'trammellaw1.SourceForms', WHERE WHAT IT READS IS OF BULK AT MOST 1048576: true; the input reads as it did. -/
def sourceFormsUptoRow : OpenClaim := { program := "ytppajbkfkhehdaa", sum := "c42bffc9d17fd8638536eee90ebe96dd5fac91e7fc57b026ea98bc44ab6f7ba0", func := "trammel/trammellaw1.SourceForms", spec := "sourceForms", apart := false, narrowed := true }
def SourceFormsUptoSaid : Prop := sourceFormsUptoRow.holds Try.pinned (OpenSpec.upto sourceFormsSpec)

/-- 'trammellaw1.SourceWalk', WHERE WHAT IT READS IS OF BULK AT MOST 1048576: true; the input reads as it did. -/
def sourceWalkUptoRow : OpenClaim := { program := "ytppajbkfkhehdaa", sum := "c42bffc9d17fd8638536eee90ebe96dd5fac91e7fc57b026ea98bc44ab6f7ba0", func := "trammel/trammellaw1.SourceWalk", spec := "sourceWalk", apart := false, narrowed := true }
def SourceWalkUptoSaid : Prop := sourceWalkUptoRow.holds Try.pinned (OpenSpec.upto sourceWalkSpec)

end Rows
end Go.Proofs.Ytppajbkfkhehdaa
