/- TreeParts: the row and its card, over the walk (HTrammellaw3TreeParts) and the plain law (HPureTreeParts). No condition. -/
import Derived.Test.YtnogfhhfklkbiaaDoorT5
import Derived.Test.YtnogfhhfklkbiaaDoorYTreeParts0
import Derived.Carry
import Derived.Test.YtnogfhhfklkbiaaDoorCards
import Derived.Test.YtnogfhhfklkbiaaDoorTie
import Derived.Test.YtnogfhhfklkbiaaDoorYTreeParts1
import Derived.WalkKit
import Derived.ProofKit
import Derived.OpenShut
import Derived.ShutString
import Derived.ChangeOld
import Derived.Below
import Derived.SizedLaws
import Derived.Deep.DeepHandedRow
namespace Go.Proofs.YtnogfhhfklkbiaaDoor.treeParts
open Go.ChangeShapes Go.WideShapes Go.ChangeAt Go.RowKit
open Go.ChangeMaps (open_string shut_string)
set_option linter.unusedVariables false
set_option maxRecDepth 100000 in
theorem contract (H : Type) (enc : TypeId × Value → H) (W : World) (base : Nat) (args : Array Value) (ds gs : List (DataW H)) (before : List MemPlace)
    (hval : ∀ (j : Nat) t v, Tryd.f4.params[j]? = some t → args[j]? = some v → Value.okWide Tryd.prog W .any base t v)
    (hW : DataW.Whole enc Tryd.prog Tryd.f4.params.toList Rows.treePartsSpec.vars false W args.toList ds gs before)
    (hsz : (DataW.weightsEach Tryd.prog (Tryd.f4.params.toList ++ Rows.treePartsSpec.plain.varTypes Tryd.prog) (ds ++ gs)).all (· ≤ reachBytes) = true) :
    Calls Tryd.prog 4 args W fun e W' => ∃ v, e = .returned v ∧ Rows.treePartsSpec.post enc Tryd.prog Tryd.f4 false true false false W args v W' := by
  have hW' := hW
  obtain ⟨p, q, hA0, hV, rfl, hfz, hnd⟩ := hW
  have hA : DataW.TrodAll enc Tryd.prog W 0 (fun _ => true) true Tryd.f4.params.toList args.toList ds p := hA0
  rw [Tryd.params4] at hA hval hsz
  obtain ⟨v0, vs0, d0, ds0, p0, q0, hargs, rfl, rfl, h0, r0⟩ := trodAll_cons hA
  obtain ⟨v1, vs1, d1, ds1, p1, q1, rfl, rfl, rfl, h1, r1⟩ := trodAll_cons r0
  obtain ⟨rfl, rfl, rfl⟩ := trodAll_nil r1
  obtain rfl : args = #[v0, v1] := by cases args; simp_all
  obtain ⟨rfl, rfl⟩ := trodVars_none hV
  obtain ⟨A0_0, c0_0, os0, A0_1, c0_1, ns0, rfl, l0_0, l0_1, k0_0, k0_1⟩ := Open.open_program (hval 0 25 v0 rfl rfl) h0
  have lt0 : ∀ x ∈ p0, x.block < W.heap.size := by
    obtain ⟨m, hm⟩ := h0
    exact DataW.trod_lt m _ _ _ hm
  obtain ⟨a1, rfl, rfl, rfl, y1⟩ := open_int Tryd.underlying3 (hval 1 3 v1 rfl rfl) h1
  obtain ⟨k, hk⟩ := Go.Proofs.YtnogfhhfklkbiaaDoor.H.TreeParts_pure os0 ns0 a1
  refine (Go.Proofs.YtnogfhhfklkbiaaDoor.H.trammellaw3_TreeParts.callsT k A0_0 c0_0 os0 A0_1 c0_1 ns0 a1 true W k0_0 l0_0 k0_1 l0_1 rfl hk).mono fun e W' ⟨he, bel⟩ => ?_
  subst he
  exact ⟨_, rfl, _, _, _, [], _, [], hW', trodAll_mk1 (shut_bool Tryd.underlying4 _), (trodAll_cons_mk (Below.trod Joined.laidOut (by kernel_rfl) (of_decide_eq_true (by kernel_rfl)) h0 bel lt0) (trodAll_cons_mk (shut_int Tryd.underlying3 y1) trodAll_mk0)), rfl, bel.frame _, fun h => by cases h⟩
theorem reads (os : Os) {H : Type} (enc : TypeId × Value → H) : ∃ places, DataW.whole enc Tryd.prog ((Laid.world os).forCall (fun _ _ => 0) ⟨#[], #[.agg #[.slice none 0 0, .slice none 0 0], .int .i64 0], []⟩).memory Tryd.f4.params.toList Rows.treePartsSpec.vars false #[Value.agg #[.slice none 0 0, .slice none 0 0], .int .i64 0].toList 8 = some ([.agg [.nil, .nil], .lit (.int .i64 0)], [], places) :=
  ⟨[], by kernel_rfl⟩
set_option maxRecDepth 100000 in
theorem lifted (os : Os) (started : os.Started) (H : Type) (enc : TypeId × Value → H) (F : Stop.Interp) :
    ReturnsInHanded {} Tryd.checked os 4 .any ((OpenSpec.ofChange Rows.treePartsSpec).preRow enc Tryd.prog Tryd.f4 Rows.treePartsRow.domain false Rows.treePartsRow.laid) (((OpenSpec.ofChange Rows.treePartsSpec).at F).post enc Tryd.prog Tryd.f4 false true false false) := by
  obtain ⟨places, hx⟩ := reads os enc
  refine returnsInHanded_of_row (C := Tryd.checked) (s := OpenSpec.ofChange Rows.treePartsSpec) Laid.own started (by kernel_rfl) Tryd.func4
    (witness_row_at (enc := enc) (C := Tryd.checked) false (Laid.world os) #[.agg #[.slice none 0 0, .slice none 0 0], .int .i64 0] rfl (by kernel_rfl) (by kernel_rfl) (by kernel_rfl)
      (OpenSpec.preRow_of_cond 8 hx (by kernel_rfl) (fun k hk => by cases hk) (by kernel_rfl) (Laid.met2 os _))) ?_
  intro W base args ds gs before hval hW _ _ hsz hL _ _
  exact contract H enc W base args ds gs before hval hW hsz
theorem liftedIs : (Rows.treePartsRow.lifted == Tryd.prog.liftsFinal) = true := Joined.lifted
theorem makeIs : (Tryd.prog.make == some Rows.treePartsRow.make) = true := Joined.make
set_option maxHeartbeats 0 in
theorem facts : joinedFacts Tryd.pinned.checked.prog 4 Tryd.f4 (OpenSpec.ofChange Rows.treePartsSpec).bare Rows.treePartsRow = true := by
  show joinedFacts Tryd.prog 4 Tryd.f4 (OpenSpec.ofChange Rows.treePartsSpec).bare Rows.treePartsRow = true
  unfold joinedFacts
  simp only [Bool.and_eq_true]
  repeat' apply And.intro
  all_goals first
    | (with_reducible exact Joined.mayEnter)
    | (with_reducible exact Joined.laidOut)
    | (with_reducible exact Joined.mapsRowed)
    | (with_reducible exact Joined.stops)
    | (with_reducible exact Joined.stopKnobs)
    | (with_reducible exact Joined.stopsHeard)
    | (with_reducible exact liftedIs)
    | (with_reducible exact makeIs)
    | (as_aux_lemma => kernel_rfl)
theorem named : Tryd.pinned.checked.prog.funcNamed Rows.treePartsRow.func = some 4 := by kernel_rfl
theorem wrapper : Tryd.f4.isWrapper Tryd.pinned.checked.prog Rows.treePartsRow.wrapper Rows.treePartsRow.mainSum := by
  unfold Func.isWrapper; first | (rw [if_pos (by decide +kernel)]; kernel_rfl) | (rw [if_neg (by decide +kernel)]; exact ⟨rfl, rfl⟩)
theorem instanceOf : Tryd.f4.isInstance Tryd.pinned.checked.prog Rows.treePartsRow.origin Rows.treePartsRow.targs := of_decide_eq_true (by kernel_rfl)
theorem said : Rows.TreePartsSaid :=
  OpenClaim.holds_of_cond 4 Tryd.f4 rfl rfl rfl rfl rfl rfl rfl ⟨rfl, rfl, rfl, rfl, rfl⟩ rfl rfl rfl rfl rfl named Tryd.func4 facts
    instanceOf wrapper
    (fun os started H enc _ F => by rw [OpenClaim.pre_eq_preRow]; exact lifted os started H enc F)
theorem plain (f : FuncId) (fn : Func) (hf : Tryd.pinned.checked.prog.funcNamed "trammel/trammellaw3.TreeParts" = some f) (hfn : Tryd.pinned.checked.prog.funcs[f]? = some fn) :
    true = Tryd.pinned.checked.prog.looks [] ∧ ∀ (j : Nat) t, fn.params[j]? = some t → Tryd.pinned.checked.prog.wantsStandIn t = false := by
  obtain rfl : f = 4 := Option.some.inj ((show Tryd.prog.funcNamed "trammel/trammellaw3.TreeParts" = some 4 by kernel_rfl).symm.trans hf) |>.symm
  obtain rfl : fn = Tryd.f4 := (Option.some.inj (Tryd.func4.symm.trans hfn)).symm
  refine ⟨by kernel_rfl, fun j t ht => ?_⟩
  rw [Tryd.params4] at ht
  obtain rfl | rfl : t = 25 ∨ t = 3 := by simpa using Array.mem_of_getElem? ht
  · exact (show Tryd.prog.wantsStandIn 25 = false by kernel_rfl)
  · exact (show Tryd.prog.wantsStandIn 3 = false by kernel_rfl)
theorem mainIs : Tryd.pinned.checked.prog.mainIs = some (Rows.treePartsCard.stood.harness.1, Rows.treePartsCard.stood.harness.2.toList) := by kernel_rfl
theorem goes : false = Rows.treePartsRow.goesBy Tryd.pinned.checked.prog := by kernel_rfl
theorem wfText : Rows.treePartsRow.wfByText (OpenSpec.ofChange Rows.treePartsSpec) = true := by kernel_rfl
set_option maxHeartbeats 0 in
theorem card : Rows.TreePartsCardSaid :=
  Claim7.holds_tied_plain_at .later [] _ _ _ _ said (fun _ h => by cases h) wfText (fun _ h => by cases h) treeParts_row_tie rfl ⟨rfl, rfl⟩ mainIs rfl plain goes
#print axioms card
end Go.Proofs.YtnogfhhfklkbiaaDoor.treeParts
namespace Go.Proofs.YtnogfhhfklkbiaaDoor
/-- The card, under a short name, for the claim. -/
theorem treeParts_holds : Rows.TreePartsCardSaid := treeParts.card
end Go.Proofs.YtnogfhhfklkbiaaDoor
