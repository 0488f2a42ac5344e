/- Scopes: the row and its card, over the walk (HTrammellaw6Scopes) and the plain law (HPureScopes). No condition. -/
import Derived.Test.YtfcjpkkglffnmaaGreatDoorYScopes2
import Derived.Carry
import Derived.Test.YtfcjpkkglffnmaaGreatDoorCards
import Derived.Test.YtfcjpkkglffnmaaGreatDoorTie
import Derived.Test.YtfcjpkkglffnmaaGreatDoorYScopes17
import Derived.WalkKit
import Derived.ProofKit
import Derived.OpenShut
import Derived.ShutString
import Derived.ChangeOld
import Derived.Below
import Derived.SizedLaws
import Derived.Deep.DeepHandedRow
namespace Go.Proofs.YtfcjpkkglffnmaaGreatDoor.scopes
open Go.ChangeShapes Go.WideShapes Go.ChangeAt Go.RowKit
open Go.ChangeMaps (open_string shut_string)
set_option linter.unusedVariables false
set_option maxRecDepth 100000 in
theorem contract (H : Type) (enc : TypeId × Value → H) (W : World) (base : Nat) (args : Array Value) (ds gs : List (DataW H)) (before : List MemPlace)
    (hval : ∀ (j : Nat) t v, Tryz.f3.params[j]? = some t → args[j]? = some v → Value.okWide Tryz.prog W .any base t v)
    (hW : DataW.Whole enc Tryz.prog Tryz.f3.params.toList Rows.scopesSpec.vars false W args.toList ds gs before)
    (hsz : (DataW.weightsEach Tryz.prog (Tryz.f3.params.toList ++ Rows.scopesSpec.plain.varTypes Tryz.prog) (ds ++ gs)).all (· ≤ reachBytes) = true) (hG : Err.ErrTy W) :
    Calls Tryz.prog 3 args W fun e W' => ∃ v, e = .returned v ∧ Rows.scopesSpec.post enc Tryz.prog Tryz.f3 false true false false W args v W' := by
  have hW' := hW;obtain ⟨p, q, hA0, hV, rfl, hfz, hnd⟩ := hW;have hA : DataW.TrodAll enc Tryz.prog W 0 (fun _ => true) true Tryz.f3.params.toList args.toList ds p := hA0;rw [Tryz.params3] at hA hval hsz;obtain ⟨v0, vs0, d0, ds0, p0, q0, hargs, rfl, rfl, h0, r0⟩ := trodAll_cons hA;obtain ⟨v1, vs1, d1, ds1, p1, q1, rfl, rfl, rfl, h1, r1⟩ := trodAll_cons r0;obtain ⟨rfl, rfl, rfl⟩ := trodAll_nil r1;obtain rfl : args = #[v0, v1] := by cases args; simp_all
  obtain ⟨rfl, rfl⟩ := trodVars_none hV;obtain ⟨Ye, Yf, os0, Xb, Yo, ns0, rfl, vk, vw, k0_0, k0_1, z0_0, z0_1⟩ := Open.zhn (hval 0 25 v0 rfl rfl) h0 (fun m_ hm_ => by have h_ := List.all_eq_true.1 hsz m_ (DataW.weights_mem_each (j := 0) (t := 25) rfl rfl m_ hm_); simpa using h_);have lt0 : ∀ x ∈ p0, x.block < W.heap.size := by
    obtain ⟨m, hm⟩ := h0;exact DataW.trod_lt m _ _ _ hm
  obtain ⟨zb2, zb3, os1, zb7, zb8, ns1, rfl, X9, Vb, k1_0, k1_1, z1_0, z1_1⟩ := Open.zhn (hval 1 25 v1 rfl rfl) h1 (fun m_ hm_ => by have h_ := List.all_eq_true.1 hsz m_ (DataW.weights_mem_each (j := 1) (t := 25) rfl rfl m_ hm_); simpa using h_);have lt1 : ∀ x ∈ p1, x.block < W.heap.size := by
    obtain ⟨m, hm⟩ := h1;exact DataW.trod_lt m _ _ _ hm
  obtain ⟨k, hk⟩ := Go.Proofs.YtfcjpkkglffnmaaGreatDoor.H.zrd os0 ns0 os1 ns1 z0_0 z0_1 z1_0 z1_1;refine (Go.Proofs.YtfcjpkkglffnmaaGreatDoor.H.yw.callsT k Ye Yf os0 Xb Yo ns0 zb2 zb3 os1 zb7 zb8 ns1 true W k0_0 vk k0_1 vw k1_0 X9 k1_1 Vb rfl hk hG).mono fun e W' ⟨he, bel⟩ => ?_
  subst he;exact ⟨_, rfl, _, _, _, [], _, [], hW', trodAll_mk1 (shut_bool Tryz.underlying4 _), (trodAll_cons_mk (Below.trod Joined.laidOut (by kernel_rfl) (of_decide_eq_true (by kernel_rfl)) h0 bel lt0) (trodAll_cons_mk (Below.trod Joined.laidOut (by kernel_rfl) (of_decide_eq_true (by kernel_rfl)) h1 bel lt1) trodAll_mk0)), rfl, bel.frame _, fun h => by cases h⟩
theorem reads (os : Os) {H : Type} (enc : TypeId × Value → H) : ∃ places, DataW.whole enc Tryz.prog ((Laid.worldE os).forCall (fun _ _ => 0) ⟨#[], #[.agg #[.slice none 0 0, .slice none 0 0], .agg #[.slice none 0 0, .slice none 0 0]], []⟩).memory Tryz.f3.params.toList Rows.scopesSpec.vars false #[Value.agg #[.slice none 0 0, .slice none 0 0], .agg #[.slice none 0 0, .slice none 0 0]].toList 8 = some ([.agg [.nil, .nil], .agg [.nil, .nil]], [], places) :=
  ⟨[], by kernel_rfl⟩
set_option maxRecDepth 100000 in
theorem lifted (os : Os) (started : os.Started) (H : Type) (enc : TypeId × Value → H) (F : Stop.Interp) :
    ReturnsInHanded {} Tryz.checked os 3 .any ((OpenSpec.ofChange Rows.scopesSpec).preRow enc Tryz.prog Tryz.f3 Rows.scopesRow.domain false Rows.scopesRow.laid) (((OpenSpec.ofChange Rows.scopesSpec).at F).post enc Tryz.prog Tryz.f3 false true false false) := by
  obtain ⟨places, hx⟩ := reads os enc;refine returnsInHanded_of_row (C := Tryz.checked) (s := OpenSpec.ofChange Rows.scopesSpec) Laid.own started (by kernel_rfl) Tryz.func3
    (witness_row_at (enc := enc) (C := Tryz.checked) false (Laid.worldE os) #[.agg #[.slice none 0 0, .slice none 0 0], .agg #[.slice none 0 0, .slice none 0 0]] rfl (by kernel_rfl) (by kernel_rfl) (by kernel_rfl)
      (OpenSpec.preRow_of_cond 8 hx (by kernel_rfl) (fun k hk => by cases hk) (by kernel_rfl) (Laid.metE os _))) ?_
  intro W base args ds gs before hval hW _ _ hsz hL _ _;exact contract H enc W base args ds gs before hval hW hsz (Laid.zmo hL)
theorem liftedIs : (Rows.scopesRow.lifted == Tryz.prog.liftsFinal) = true := Joined.lifted
theorem makeIs : (Tryz.prog.make == some Rows.scopesRow.make) = true := Joined.make
set_option maxHeartbeats 0 in
theorem facts : joinedFacts Tryz.pinned.checked.prog 3 Tryz.f3 (OpenSpec.ofChange Rows.scopesSpec).bare Rows.scopesRow = true := by
  show joinedFacts Tryz.prog 3 Tryz.f3 (OpenSpec.ofChange Rows.scopesSpec).bare Rows.scopesRow = true;unfold joinedFacts;simp only [Bool.and_eq_true];repeat' apply And.intro
  all_goals first
    | (with_reducible exact Joined.mayEnter)
    | (with_reducible exact Joined.laidOut)
    | (with_reducible exact Joined.mapsRowed)
    | (with_reducible exact Joined.stops)
    | (with_reducible exact Joined.stopKnobs)
    | (with_reducible exact Joined.stopsHeard)
    | (with_reducible exact liftedIs)
    | (with_reducible exact makeIs)
    | (as_aux_lemma => kernel_rfl)
theorem named : Tryz.pinned.checked.prog.funcNamed Rows.scopesRow.func = some 3 := by kernel_rfl
theorem wrapper : Tryz.f3.isWrapper Tryz.pinned.checked.prog Rows.scopesRow.wrapper Rows.scopesRow.mainSum := by
  unfold Func.isWrapper; first | (rw [if_pos (by decide +kernel)]; kernel_rfl) | (rw [if_neg (by decide +kernel)]; exact ⟨rfl, rfl⟩)
theorem instanceOf : Tryz.f3.isInstance Tryz.pinned.checked.prog Rows.scopesRow.origin Rows.scopesRow.targs := of_decide_eq_true (by kernel_rfl)
theorem said : Rows.ScopesSaid :=
  OpenClaim.holds_of_cond 3 Tryz.f3 rfl rfl rfl rfl rfl rfl rfl ⟨rfl, rfl, rfl, rfl, rfl⟩ rfl rfl rfl rfl rfl named Tryz.func3 facts
    instanceOf wrapper
    (fun os started H enc _ F => by rw [OpenClaim.pre_eq_preRow]; exact lifted os started H enc F)
theorem plain (f : FuncId) (fn : Func) (hf : Tryz.pinned.checked.prog.funcNamed "trammel/trammellaw6.Scopes" = some f) (hfn : Tryz.pinned.checked.prog.funcs[f]? = some fn) :
    true = Tryz.pinned.checked.prog.looks [] ∧ ∀ (j : Nat) t, fn.params[j]? = some t → Tryz.pinned.checked.prog.wantsStandIn t = false := by
  obtain rfl : f = 3 := Option.some.inj ((show Tryz.prog.funcNamed "trammel/trammellaw6.Scopes" = some 3 by kernel_rfl).symm.trans hf) |>.symm
  obtain rfl : fn = Tryz.f3 := (Option.some.inj (Tryz.func3.symm.trans hfn)).symm;refine ⟨by kernel_rfl, fun j t ht => ?_⟩;rw [Tryz.params3] at ht;obtain rfl : t = 25 := by simpa using Array.mem_of_getElem? ht
  exact (show Tryz.prog.wantsStandIn 25 = false by kernel_rfl)
theorem mainIs : Tryz.pinned.checked.prog.mainIs = some (Rows.scopesCard.stood.harness.1, Rows.scopesCard.stood.harness.2.toList) := by kernel_rfl
theorem goes : false = Rows.scopesRow.goesBy Tryz.pinned.checked.prog := by kernel_rfl
theorem wfText : Rows.scopesRow.wfByText (OpenSpec.ofChange Rows.scopesSpec) = true := by kernel_rfl
set_option maxHeartbeats 0 in
theorem card : Rows.ScopesCardSaid :=
  Claim7.holds_tied_plain_at .later [] _ _ _ _ said (fun _ h => by cases h) wfText (fun _ h => by cases h) scopes_row_tie rfl ⟨rfl, rfl⟩ mainIs rfl plain goes
#print axioms card
end Go.Proofs.YtfcjpkkglffnmaaGreatDoor.scopes
namespace Go.Proofs.YtfcjpkkglffnmaaGreatDoor
theorem scopes_holds : Rows.ScopesCardSaid := scopes.card
end Go.Proofs.YtfcjpkkglffnmaaGreatDoor
