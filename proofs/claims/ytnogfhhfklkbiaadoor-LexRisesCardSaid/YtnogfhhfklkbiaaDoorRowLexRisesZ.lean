/- LexRises: the row and its card, over the walk (HTrammellaw2LexRises) and the plain law (HPureLexRises). No condition. -/
import Derived.Test.YtnogfhhfklkbiaaDoorL6
import Derived.Test.YtnogfhhfklkbiaaDoorCards
import Derived.Test.YtnogfhhfklkbiaaDoorTie
import Derived.Test.YtnogfhhfklkbiaaDoorYLexRises1
import Derived.WalkKit
import Derived.ProofKit
import Derived.OpenShut
import Derived.ShutString
import Derived.ChangeOld
import Derived.Below
import Derived.SizedLaws
import Derived.Deep.DeepHandedRow
namespace Go.Proofs.YtnogfhhfklkbiaaDoor.lexRises
open Go.ChangeShapes Go.WideShapes Go.ChangeAt Go.RowKit
open Go.ChangeMaps (open_string shut_string)
set_option linter.unusedVariables false
set_option maxRecDepth 100000 in
theorem contract (H : Type) (enc : TypeId × Value → H) (W : World) (base : Nat) (args : Array Value) (ds gs : List (DataW H)) (before : List MemPlace)
    (hval : ∀ (j : Nat) t v, Tryd.f8.params[j]? = some t → args[j]? = some v → Value.okWide Tryd.prog W .any base t v)
    (hW : DataW.Whole enc Tryd.prog Tryd.f8.params.toList Rows.lexRisesSpec.vars false W args.toList ds gs before)
    (hsz : (DataW.weightsEach Tryd.prog (Tryd.f8.params.toList ++ Rows.lexRisesSpec.plain.varTypes Tryd.prog) (ds ++ gs)).all (· ≤ reachBytes) = true) (hG : Err.ErrTy W) :
    Calls Tryd.prog 8 args W fun e W' => ∃ v, e = .returned v ∧ Rows.lexRisesSpec.post enc Tryd.prog Tryd.f8 false true false false W args v W' := by
  have hW' := hW
  obtain ⟨p, q, hA0, hV, rfl, hfz, hnd⟩ := hW
  have hA : DataW.TrodAll enc Tryd.prog W 0 (fun _ => true) true Tryd.f8.params.toList args.toList ds p := hA0
  rw [Tryd.params8] at hA hval hsz
  obtain ⟨v0, vs0, d0, ds0, p0, q0, hargs, rfl, rfl, h0, r0⟩ := trodAll_cons hA
  obtain ⟨rfl, rfl, rfl⟩ := trodAll_nil r0
  obtain rfl : args = #[v0] := by cases args; simp_all
  obtain ⟨rfl, rfl⟩ := trodVars_none hV
  obtain ⟨a0, rfl, rfl, rfl, y0⟩ := open_string Tryd.underlying9 (hval 0 9 v0 rfl rfl) h0
  have w0 : a0.size ≤ 140737488351232 := by
    have z := sized_string hsz (j := 0) (t := 9) rfl rfl
    rw [Array.length_toList] at z
    exact z
  clear hA0 hsz
  obtain ⟨k, hk⟩ := Go.Proofs.YtnogfhhfklkbiaaDoor.H.LexRises_pure a0 w0
  refine (Go.Proofs.YtnogfhhfklkbiaaDoor.H.trammellaw2_LexRises.callsT k a0 true W rfl hk hG).mono fun e W' ⟨he, bel⟩ => ?_
  subst he
  exact ⟨_, rfl, _, _, _, [], _, [], hW', trodAll_mk1 (shut_bool Tryd.underlying4 _), (trodAll_cons_mk (shut_string Tryd.underlying9 y0) trodAll_mk0), rfl, bel.frame _, fun h => by cases h⟩
theorem reads (os : Os) {H : Type} (enc : TypeId × Value → H) : ∃ places, DataW.whole enc Tryd.prog ((Laid.worldE os).forCall (fun _ _ => 0) ⟨#[], #[.string ByteArray.empty], []⟩).memory Tryd.f8.params.toList Rows.lexRisesSpec.vars false #[Value.string ByteArray.empty].toList 8 = some ([.lit (.string [])], [], places) :=
  ⟨[], by kernel_rfl⟩
set_option maxRecDepth 100000 in
theorem lifted (os : Os) (started : os.Started) (H : Type) (enc : TypeId × Value → H) (F : Stop.Interp) :
    ReturnsInHanded {} Tryd.checked os 8 .any ((OpenSpec.ofChange Rows.lexRisesSpec).preRow enc Tryd.prog Tryd.f8 Rows.lexRisesRow.domain false Rows.lexRisesRow.laid) (((OpenSpec.ofChange Rows.lexRisesSpec).at F).post enc Tryd.prog Tryd.f8 false true false false) := by
  obtain ⟨places, hx⟩ := reads os enc
  refine returnsInHanded_of_row (C := Tryd.checked) (s := OpenSpec.ofChange Rows.lexRisesSpec) Laid.own started (by kernel_rfl) Tryd.func8
    (witness_row_at (enc := enc) (C := Tryd.checked) false (Laid.worldE os) #[.string ByteArray.empty] rfl (by kernel_rfl) (by kernel_rfl) (by kernel_rfl)
      (OpenSpec.preRow_of_cond 8 hx (by kernel_rfl) (fun k hk => by cases hk) (by kernel_rfl) (Laid.metE os _))) ?_
  intro W base args ds gs before hval hW _ _ hsz hL _ _
  exact contract H enc W base args ds gs before hval hW hsz (Laid.errTy_of_laid hL)
theorem liftedIs : (Rows.lexRisesRow.lifted == Tryd.prog.liftsFinal) = true := Joined.lifted
theorem makeIs : (Tryd.prog.make == some Rows.lexRisesRow.make) = true := Joined.make
set_option maxHeartbeats 0 in
theorem facts : joinedFacts Tryd.pinned.checked.prog 8 Tryd.f8 (OpenSpec.ofChange Rows.lexRisesSpec).bare Rows.lexRisesRow = true := by
  show joinedFacts Tryd.prog 8 Tryd.f8 (OpenSpec.ofChange Rows.lexRisesSpec).bare Rows.lexRisesRow = true
  unfold joinedFacts
  simp only [Bool.and_eq_true]
  repeat' apply And.intro
  all_goals first
    | (with_reducible exact Joined.mayEnter)
    | (with_reducible exact Joined.laidOut)
    | (with_reducible exact Joined.mapsRowed)
    | (with_reducible exact Joined.stops)
    | (with_reducible exact Joined.stopKnobs)
    | (with_reducible exact Joined.stopsHeard)
    | (with_reducible exact liftedIs)
    | (with_reducible exact makeIs)
    | (as_aux_lemma => kernel_rfl)
theorem named : Tryd.pinned.checked.prog.funcNamed Rows.lexRisesRow.func = some 8 := by kernel_rfl
theorem wrapper : Tryd.f8.isWrapper Tryd.pinned.checked.prog Rows.lexRisesRow.wrapper Rows.lexRisesRow.mainSum := by
  unfold Func.isWrapper; first | (rw [if_pos (by decide +kernel)]; kernel_rfl) | (rw [if_neg (by decide +kernel)]; exact ⟨rfl, rfl⟩)
theorem instanceOf : Tryd.f8.isInstance Tryd.pinned.checked.prog Rows.lexRisesRow.origin Rows.lexRisesRow.targs := of_decide_eq_true (by kernel_rfl)
theorem said : Rows.LexRisesSaid :=
  OpenClaim.holds_of_cond 8 Tryd.f8 rfl rfl rfl rfl rfl rfl rfl ⟨rfl, rfl, rfl, rfl, rfl⟩ rfl rfl rfl rfl rfl named Tryd.func8 facts
    instanceOf wrapper
    (fun os started H enc _ F => by rw [OpenClaim.pre_eq_preRow]; exact lifted os started H enc F)
theorem plain (f : FuncId) (fn : Func) (hf : Tryd.pinned.checked.prog.funcNamed "trammel/trammellaw2.LexRises" = some f) (hfn : Tryd.pinned.checked.prog.funcs[f]? = some fn) :
    true = Tryd.pinned.checked.prog.looks [] ∧ ∀ (j : Nat) t, fn.params[j]? = some t → Tryd.pinned.checked.prog.wantsStandIn t = false := by
  obtain rfl : f = 8 := Option.some.inj ((show Tryd.prog.funcNamed "trammel/trammellaw2.LexRises" = some 8 by kernel_rfl).symm.trans hf) |>.symm
  obtain rfl : fn = Tryd.f8 := (Option.some.inj (Tryd.func8.symm.trans hfn)).symm
  refine ⟨by kernel_rfl, fun j t ht => ?_⟩
  rw [Tryd.params8] at ht
  obtain rfl : t = 9 := by simpa using Array.mem_of_getElem? ht
  exact (show Tryd.prog.wantsStandIn 9 = false by kernel_rfl)
theorem mainIs : Tryd.pinned.checked.prog.mainIs = some (Rows.lexRisesCard.stood.harness.1, Rows.lexRisesCard.stood.harness.2.toList) := by kernel_rfl
theorem goes : false = Rows.lexRisesRow.goesBy Tryd.pinned.checked.prog := by kernel_rfl
theorem wfText : Rows.lexRisesRow.wfByText (OpenSpec.ofChange Rows.lexRisesSpec) = true := by kernel_rfl
set_option maxHeartbeats 0 in
theorem card : Rows.LexRisesCardSaid :=
  Claim7.holds_tied_plain_at .later [] _ _ _ _ said (fun _ h => by cases h) wfText (fun _ h => by cases h) lexRises_row_tie rfl ⟨rfl, rfl⟩ mainIs rfl plain goes
#print axioms card
end Go.Proofs.YtnogfhhfklkbiaaDoor.lexRises
namespace Go.Proofs.YtnogfhhfklkbiaaDoor
/-- The card, under a short name, for the claim. -/
theorem lexRises_holds : Rows.LexRisesCardSaid := lexRises.card
end Go.Proofs.YtnogfhhfklkbiaaDoor
