/- Several texts in one: contracts of functions of the program, and what they lean on. In part written by a program of this session over the kit's print, in part by hand. -/
import Derived.Test.YtfcjpkkglffnmaaDoorYScopeNames8
import Derived.Test.YtfcjpkkglffnmaaDoorYScopeNames2
import Derived.Test.YtfcjpkkglffnmaaDoorYScopeNames6
import Derived.Test.YtfcjpkkglffnmaaDoorYScopeNames5
import Derived.Test.YtfcjpkkglffnmaaDoorYScopeNames7
namespace Go.Proofs.YtfcjpkkglffnmaaDoor.H
open Go.RowKit Go.Proofs.YtfcjpkkglffnmaaDoorW.PrintWords Go.Proofs.YtfcjpkkglffnmaaDoorW.PrintLast Go.Proofs.YtfcjpkkglffnmaaDoorW.PrintMore
attribute [local go_sem] max2_int min2_int max_two min_two max_three min_three max_four min_four
set_option linter.unusedVariables false
set_option linter.unusedSimpArgs false
set_option maxHeartbeats 8000000 in
set_option maxRecDepth 100000 in
theorem trammellaw6_ScopeNames.callsT (k : Nat) (A0_0 : Option Addr) (c0_0 : Nat) (l0_0 : List (S45)) (A0_1 : Option Addr) (c0_1 : Nat) (l0_1 : List (S34)) (r : Bool) (w : World) (hr0_0 : Kd.C k45 w A0_0 l0_0.length l0_0) (hc0_0 : l0_0.length ≤ c0_0) (hr0_1 : Kd.C k34 w A0_1 l0_1.length l0_1) (hc0_1 : l0_1.length ≤ c0_1) (htrue : r = true) (h : trammellaw6_ScopeNames.f k l0_0 l0_1 = some r) (hG : Err.ErrTy w) :
  Calls Tryd.prog 4 #[.agg #[.slice A0_0 l0_0.length c0_0, .slice A0_1 l0_1.length c0_1]] w fun e w' => e = .returned (.bool r) ∧ Below w.heap.size w w' := by
 have HG := Aside0.mk hG
 clear hG
 have HTRUE := Aside0.mk htrue
 clear htrue
 have hu25 := Tryd.underlying25
 have hu34 := Tryd.underlying34
 have Kj := Aside0.mk hr0_0
 have Kk := Aside0.mk hc0_0
 clear hr0_0 hc0_0
 have Ka := Aside0.mk hr0_1
 have Kb := Aside0.mk hc0_1
 clear hr0_1 hc0_1
 have HB := Aside0.mk (Below.refl w.heap.size w)
 have H : ((trammellaw6_awake.f k).bind fun t348 => (if t348 = true then ((trammellaw0_CopyOps.f l0_0).bind fun Ao => ((trammellaw0_CopyNodes.f l0_1).bind fun Cf => (trammellaw6_ScopeNames.l0 k 0 l0_0 l0_1 Ao Cf))) else (some false))) = some r := h
 clear h
 replace H := Option.bind_eq_some_iff.mp H
 obtain ⟨t348, A20, H⟩ := H
 replace H : (if t348 = true then ((trammellaw0_CopyOps.f l0_0).bind fun Ao => ((trammellaw0_CopyNodes.f l0_1).bind fun Cf => (trammellaw6_ScopeNames.l0 k 0 l0_0 l0_1 Ao Cf))) else (some false)) = some r := H
 have A2 := Aside0.mk A20
 clear A20
 by_cases c3 : t348 = true
 ·
  subst c3
  have H1 : ((trammellaw0_CopyOps.f l0_0).bind fun Ao => ((trammellaw0_CopyNodes.f l0_1).bind fun Cf => (trammellaw6_ScopeNames.l0 k 0 l0_0 l0_1 Ao Cf))) = some r := by rw [if_pos rfl] at H; exact H
  clear H
  have H := H1
  clear H1
  replace H := Option.bind_eq_some_iff.mp H
  obtain ⟨Ao, A40, H⟩ := H
  replace H : ((trammellaw0_CopyNodes.f l0_1).bind fun Cf => (trammellaw6_ScopeNames.l0 k 0 l0_0 l0_1 Ao Cf)) = some r := H
  have A4 := Aside0.mk A40
  clear A40
  replace H := Option.bind_eq_some_iff.mp H
  obtain ⟨Cf, A50, H⟩ := H
  replace H : (trammellaw6_ScopeNames.l0 k 0 l0_0 l0_1 Ao Cf) = some r := H
  have A5 := Aside0.mk A50
  clear A50
  have H' := Aside0.mk H
  clear H
  go_enter Tryd.func4, Tryd.ntmps4
  try go_wp2_with (first | ((with_reducible refine gate_dst (N := 1) rfl ?_); (try (refine gate_guard (by rfl) ?_; dsimp only)); refine box_event ?hg (N := 1) ?hd (cs := #[.slice A0_0 l0_0.length c0_0, .slice A0_1 l0_1.length c0_1]) (t := 25) ?hr ?_; (case hd => rfl); (case hg => rfl); (case hr => first | (go_simp; done) | (go_simp; rfl)); intro Al hg w6 hbox hb; have Ba := Aside0.mk (below_step (by repeat (first | (with_reducible first | exact HB.out | apply below_alloc | apply pw_below_drewN | apply below_drew1) | exact HB.out)) hb); have Bb := Aside0.mk (hbox); have Bg := Aside0.mk ((by rw [hg]; exact (below_size (by repeat (first | (with_reducible first | exact HB.out | apply below_alloc | apply pw_below_drewN | apply below_drew1) | exact HB.out))) : w.heap.size ≤ Al)); have Bi := Aside0.mk ((by rw [hg]; exact (below_size (by repeat (first | (with_reducible first | exact HB.out | apply below_alloc | apply pw_below_drewN | apply below_drew1) | exact HB.out))) : w.heap.size ≤ Al)); clear HB; have HB := Ba; have Ag := Bb; have GW347 := Bg; have Am := Bi; clear Ba Bb Bg Bi; clear hb hbox hg) | ((with_reducible refine gate_callee (f := 7) rfl ?_); refine goesL_ (some 12) rfl rfl Tryd.func7 (by kernel_rfl) rfl #[] rfl (by (try simp only [List.map_toArray, List.map_cons, List.map_nil]); first | done | rfl | (simp only [List.length_drop, List.length_take]; rfl)) ?_; (with_reducible refine (trammellaw6_awake.callsT k true _ rfl A2.out (HG.out.below HG.out.lt (by repeat (first | (with_reducible first | exact HB.out | apply below_alloc | apply pw_below_drewN | apply below_drew1 | refine below_set ?_ (Aside0.out (by assumption))) | exact HB.out)))).mono ?_); rintro e w7 ⟨rfl, hb⟩; refine ⟨_, rfl, ?_⟩; have Ba := Aside0.mk (blk_below (g := Al) (o := .cells #[.slice A0_0 l0_0.length c0_0, .slice A0_1 l0_1.length c0_1] 25 (0, 0)) (by (with_reducible repeat (first | refine blk_drewN ?_ _ | refine blk_drew ?_ | refine blk_alloc ?_ _)); exact Ag.out) hb); have Bb := Aside0.mk (below_step (by repeat (first | (with_reducible first | exact HB.out | apply below_alloc | apply pw_below_drewN | apply below_drew1 | refine below_set ?_ Am.out) | exact HB.out)) hb); clear Ag HB; have Ag := Ba; have HB := Bb; clear Ba Bb; (try clear hb); (try clear hb2); (try clear hk); (try clear hi)))
  have Ba := Aside0.mk (blk_drew Ag.out)
  have Bb := Aside0.mk (below_drew1 HB.out)
  clear Ag
  clear HB
  have Ag := Ba
  have HB := Bb
  clear Ba Bb
  refine start_ (n := 9) (S := fun w' => w'.cell? ⟨Al, 0, none⟩ = some (.slice A0_0 l0_0.length c0_0) ∧ w'.cell? ⟨Al, 1, none⟩ = some (.slice A0_1 l0_1.length c0_1)) (ds := []) #[false, false, false, false, false, false, false, false, false] (by kernel_rfl) rfl rfl ⟨(blk_cell Ag.out 0).trans rfl, (blk_cell Ag.out 1).trans rfl⟩ (fun hHeld => ?_); refine with_tabW trammellaw6_ScopeNames.tab3 trammellaw6_ScopeNames.bits3 (fun HT_ HW_ => ?_)
  generalize w7.drew = w8 at Ag HB hHeld ⊢
  refine pure_ (i := 0) (N := some 14) (v := ?_) (a' := ?_) #[true, false, false, false, false, false, false, false, false] rfl rfl (any_of HT_.out (by kernel_rfl)) (fun _ _ _ h => h) (Or.inl ⟨by rfl, ?_⟩) ?_ ?_
  rotate_left
  ·
   intro w'
   go_simp
   with_reducible rfl
  rotate_left
  ·
   simp only [Act.put, List.setIfInBounds_toArray, List.set_cons_zero, List.set_cons_succ, i64_w, i32_w]
   rfl
  refine pure_ (i := 3) (N := some 17) (v := ?_) (a' := ?_) #[true, false, false, true, false, false, false, false, false] rfl rfl (any_of HT_.out (by kernel_rfl)) (fun _ _ _ h => h) (Or.inl ⟨by rfl, ?_⟩) ?_ ?_
  rotate_left
  ·
   intro w'
   go_simp
   with_reducible rfl
  rotate_left
  ·
   simp only [Act.put, List.setIfInBounds_toArray, List.set_cons_zero, List.set_cons_succ, i64_w, i32_w]
   rfl
  refine take_ (i := 1) (N := some 15) (v := ?_) (a' := ?_) #[true, true, false, true, false, false, false, false, false] rfl rfl (take_ofW HT_.out HW_.out (by kernel_rfl)) (fun _ _ _ h => h) (Or.inl ⟨by rfl, ?_⟩) hHeld ?_ ?_
  rotate_left
  ·
   rintro w' ⟨s0, s1⟩
   go_simp
   with_reducible rfl
  rotate_left
  ·
   simp only [Act.put, List.setIfInBounds_toArray, List.set_cons_zero, List.set_cons_succ, i64_w, i32_w]
   rfl
  refine take_ (i := 4) (N := some 18) (v := ?_) (a' := ?_) #[true, true, false, true, true, false, false, false, false] rfl rfl (take_ofW HT_.out HW_.out (by kernel_rfl)) (fun _ _ _ h => h) (Or.inl ⟨by rfl, ?_⟩) hHeld ?_ ?_
  rotate_left
  ·
   rintro w' ⟨s0, s1⟩
   go_simp
   with_reducible rfl
  rotate_left
  ·
   simp only [Act.put, List.setIfInBounds_toArray, List.set_cons_zero, List.set_cons_succ, i64_w, i32_w]
   rfl
  refine join_ (σ := Value × Value × Nat) 1 #[true, true, true, true, true, true, true, true, false] (fun s_ => [(16, s_.1), (19, s_.2.1), (3, .pointer (some ⟨s_.2.2, 0, none⟩)), (20, .agg #[s_.1, s_.2.1])]) (fun s_ w' => (w'.cell? ⟨Al, 0, none⟩ = some (.slice A0_0 l0_0.length c0_0) ∧ w'.cell? ⟨Al, 1, none⟩ = some (.slice A0_1 l0_1.length c0_1)) ∧ (Kd.R k45 45 w' w.heap.size (fun _ => True) s_.1 Ao) ∧ (Kd.R k34 34 w' w.heap.size (fun _ => True) s_.2.1 Cf) ∧ (w'.heap[Al]? = some (.cells #[.slice A0_0 l0_0.length c0_0, .slice A0_1 l0_1.length c0_1] 25 (0, 0))) ∧ (w'.heap[s_.2.2]? = some (.cells #[.slice none 0 0, .slice none 0 0] 25 (0, 0))) ∧ (w.heap.size ≤ s_.2.2) ∧ (w.heap.size ≤ s_.2.2) ∧ (Al ≠ s_.2.2) ∧ (s_.2.2 ≠ Al) ∧ (Below w.heap.size w w')) ?_ ?_
  rotate_left
  ·
   intro hCont
   refine two_ (i := 2) (j := 7) (Ni := some 16) (Nj := some 3) #[true, true, true, true, true, false, false, false, false] #[true, true, false, true, true, false, false, true, false] rfl rfl rfl rfl (two_of HT_.out (by kernel_rfl)) (by decide) (by decide) (fun K hK => ?_) (fun K hK => ?_)
   ·
    skip
    refine goes_ Tryd.func12 (by kernel_rfl) rfl #[.slice A0_0 l0_0.length c0_0] (by rfl) rfl rfl (by (try simp only [List.map_toArray, List.map_cons, List.map_nil]); first | done | rfl | (simp only [List.length_drop, List.length_take]; rfl)) ?_
    with_reducible refine (trammellaw0_CopyOps.calls _ _ l0_0 Ao _ ?side1 ?side2 A4.out).mono ?_
    (case side1 => repeat (first | exact (Kd.C_below Kj.out HB.out) | (with_reducible refine Kd.C_alloc ?_ _) | (with_reducible refine Kd.C_drewN ?_ _) | (with_reducible refine Kd.C_drew ?_)))
    (case side2 => exact Kk.out)
    rintro e w9 ⟨v350, rfl, ho0, hb⟩
    refine ⟨_, rfl, ?_⟩
    have Ba := Aside0.mk (Kd.R_lower ho0 (below_size (by repeat (first | (with_reducible first | exact HB.out | apply below_alloc | apply pw_below_drewN | apply below_drew1 | refine below_set ?_ Am.out) | exact HB.out))))
    have Bb := Aside0.mk (blk_below (g := Al) (o := .cells #[.slice A0_0 l0_0.length c0_0, .slice A0_1 l0_1.length c0_1] 25 (0, 0)) (by (with_reducible repeat (first | refine blk_drewN ?_ _ | refine blk_drew ?_ | refine blk_alloc ?_ _)); exact Ag.out) hb)
    have Bg := Aside0.mk (below_step (by repeat (first | (with_reducible first | exact HB.out | apply below_alloc | apply pw_below_drewN | apply below_drew1 | refine below_set ?_ Am.out) | exact HB.out)) hb)
    clear Ag
    clear HB
    have Bj := Ba
    have Ag := Bb
    have HB := Bg
    clear Ba Bb Bg
    (try clear hb)
    (try clear hb2)
    (try clear hk)
    (try clear hi)
    (try clear ho0)
    refine hK.out _ _ ⟨(blk_cell Ag.out 0).trans rfl, (blk_cell Ag.out 1).trans rfl⟩ (fun hHeld => ?_)
    clear hK K
    refine norm_ (a' := ?_) ?_ ?_
    rotate_left
    ·
     show Act.put _ (some 16) _ = _
     simp only [Act.put, List.setIfInBounds_toArray, List.set_cons_zero, List.set_cons_succ, i64_w, i32_w]
     rfl
    refine two_ (i := 5) (j := 7) (Ni := some 19) (Nj := some 3) #[true, true, true, true, true, true, false, false, false] #[true, true, true, true, true, false, false, true, false] rfl rfl rfl rfl (two_of HT_.out (by kernel_rfl)) (by decide) (by decide) (fun K hK => ?_) (fun K hK => ?_)
    ·
     skip
     refine goes_ Tryd.func13 (by kernel_rfl) rfl #[.slice A0_1 l0_1.length c0_1] (by rfl) rfl rfl (by (try simp only [List.map_toArray, List.map_cons, List.map_nil]); first | done | rfl | (simp only [List.length_drop, List.length_take]; rfl)) ?_
     with_reducible refine (trammellaw0_CopyNodes.calls _ _ l0_1 Cf _ ?side1 ?side2 A5.out).mono ?_
     (case side1 => repeat (first | exact (Kd.C_below Ka.out HB.out) | (with_reducible refine Kd.C_alloc ?_ _) | (with_reducible refine Kd.C_drewN ?_ _) | (with_reducible refine Kd.C_drew ?_)))
     (case side2 => exact Kb.out)
     rintro e w10 ⟨v353, rfl, ho0, hb⟩
     refine ⟨_, rfl, ?_⟩
     have Ba := Aside0.mk (Kd.R_below (by (with_reducible repeat (first | apply Kd.R_alloc | apply Kd.R_drewN | apply Kd.R_drew)); exact Bj.out) hb)
     have Bb := Aside0.mk (Kd.R_lower ho0 (below_size (by repeat (first | (with_reducible first | exact HB.out | apply below_alloc | apply pw_below_drewN | apply below_drew1 | refine below_set ?_ Am.out) | exact HB.out))))
     have Bg := Aside0.mk (blk_below (g := Al) (o := .cells #[.slice A0_0 l0_0.length c0_0, .slice A0_1 l0_1.length c0_1] 25 (0, 0)) (by (with_reducible repeat (first | refine blk_drewN ?_ _ | refine blk_drew ?_ | refine blk_alloc ?_ _)); exact Ag.out) hb)
     have Bi := Aside0.mk (below_step (by repeat (first | (with_reducible first | exact HB.out | apply below_alloc | apply pw_below_drewN | apply below_drew1 | refine below_set ?_ Am.out) | exact HB.out)) hb)
     clear Bj
     clear Ag
     clear HB
     have Bj := Ba
     have Bz := Bb
     have Ag := Bg
     have HB := Bi
     clear Ba Bb Bg Bi
     (try clear hb)
     (try clear hb2)
     (try clear hk)
     (try clear hi)
     (try clear ho0)
     obtain ⟨Ao11, co11, eo11⟩ := Kd.R_slice Bz.out
     (first | subst eo11 | (injection eo11 with f1_ f2_ f3_; have f4_ := f1_.symm; have f5_ := f3_.symm; clear f1_ f2_ f3_; subst f4_; subst f5_))
     obtain ⟨Li, Lj, eo12⟩ := Kd.R_slice Bj.out
     (first | subst eo12 | (injection eo12 with f1_ f2_ f3_; have f4_ := f1_.symm; have f5_ := f3_.symm; clear f1_ f2_ f3_; subst f4_; subst f5_))
     refine hK.out _ _ ⟨(blk_cell Ag.out 0).trans rfl, (blk_cell Ag.out 1).trans rfl⟩ (fun hHeld => ?_)
     clear hK K
     refine norm_ (a' := ?_) ?_ ?_
     rotate_left
     ·
      show Act.put _ (some 19) _ = _
      simp only [Act.put, List.setIfInBounds_toArray, List.set_cons_zero, List.set_cons_succ, i64_w, i32_w]
      rfl
     refine pure_ (i := 6) (N := some 20) (v := ?_) (a' := ?_) #[true, true, true, true, true, true, true, false, false] rfl rfl (any_of HT_.out (by kernel_rfl)) (fun _ _ _ h => h) (Or.inl ⟨by rfl, ?_⟩) ?_ ?_
     rotate_left
     ·
      intro w'
      go_simp
      with_reducible rfl
     rotate_left
     ·
      simp only [Act.put, List.setIfInBounds_toArray, List.set_cons_zero, List.set_cons_succ, i64_w, i32_w]
      rfl
     refine one_ (i := 7) (N := some 3) #[true, true, true, true, true, true, true, true, false] rfl rfl (one_of HT_.out (by kernel_rfl)) (by decide) (fun K hK => ?_)
     refine box_step ?hg (N := 3) ?hd (cs := #[.slice none 0 0, .slice none 0 0]) (t := 25) ?hr ?_; (case hd => rfl); (case hg => rfl); (case hr => first | (go_simp; done) | (go_simp; rfl))
     intro Ak hg w13 hbox hb
     have Ba := Aside0.mk (Kd.R_below (by (with_reducible repeat (first | apply Kd.R_alloc | apply Kd.R_drewN | apply Kd.R_drew)); exact Bj.out) hb)
     have Bb := Aside0.mk (Kd.R_below (by (with_reducible repeat (first | apply Kd.R_alloc | apply Kd.R_drewN | apply Kd.R_drew)); exact Bz.out) hb)
     have Bg := Aside0.mk (blk_below (g := Al) (o := .cells #[.slice A0_0 l0_0.length c0_0, .slice A0_1 l0_1.length c0_1] 25 (0, 0)) (by (with_reducible repeat (first | refine blk_drewN ?_ _ | refine blk_drew ?_ | refine blk_alloc ?_ _)); exact Ag.out) hb)
     have Bi := Aside0.mk (below_step (by repeat (first | (with_reducible first | exact HB.out | apply below_alloc | apply pw_below_drewN | apply below_drew1 | refine below_set ?_ Am.out) | exact HB.out)) hb)
     have Bk := Aside0.mk (hbox)
     have Bn := Aside0.mk ((by rw [hg]; exact (below_size (by repeat (first | (with_reducible first | exact HB.out | apply below_alloc | apply pw_below_drewN | apply below_drew1 | refine below_set ?_ Am.out) | exact HB.out))) : w.heap.size ≤ Ak))
     have Cg := Aside0.mk ((by rw [hg]; exact (below_size (by repeat (first | (with_reducible first | exact HB.out | apply below_alloc | apply pw_below_drewN | apply below_drew1 | refine below_set ?_ Am.out) | exact HB.out))) : w.heap.size ≤ Ak))
     have Cr := Aside0.mk ((by rw [hg]; exact Nat.ne_of_lt (blk_lt (g := Al) (o := .cells #[.slice A0_0 l0_0.length c0_0, .slice A0_1 l0_1.length c0_1] 25 (0, 0)) (by (with_reducible repeat (first | refine blk_drewN ?_ _ | refine blk_drew ?_ | refine blk_alloc ?_ _)); exact Ag.out)) : Al ≠ Ak))
     have Ct := Aside0.mk ((by rw [hg]; exact Nat.ne_of_gt (blk_lt (g := Al) (o := .cells #[.slice A0_0 l0_0.length c0_0, .slice A0_1 l0_1.length c0_1] 25 (0, 0)) (by (with_reducible repeat (first | refine blk_drewN ?_ _ | refine blk_drew ?_ | refine blk_alloc ?_ _)); exact Ag.out)) : Ak ≠ Al))
     clear Bj
     clear Bz
     clear Ag
     clear HB
     have Bj := Ba
     have Bz := Bb
     have Ag := Bg
     have HB := Bi
     have Ah := Bk
     have GW355 := Bn
     have Ap := Cg
     have At := Cr
     have Ax := Ct
     clear Ba Bb Bg Bi Bk Bn Cg Cr Ct
     clear hb hbox hg
     refine hK.out _ _ ⟨(blk_cell Ag.out 0).trans rfl, (blk_cell Ag.out 1).trans rfl⟩ (fun hHeld => ?_)
     clear hK K
     refine norm_ (a' := ?_) ?_ ?_
     rotate_left
     ·
      show Act.put _ (some 3) _ = _
      simp only [Act.put, List.setIfInBounds_toArray, List.set_cons_zero, List.set_cons_succ, i64_w, i32_w]
      rfl
     exact norm_ (by simp only [putAll, Act.put, List.setIfInBounds_toArray, List.set_cons_zero, List.set_cons_succ]) (hCont (.slice Li Ao.length Lj, .slice Ao11 Cf.length co11, Ak) _ ⟨hHeld, (by (with_reducible repeat (first | apply Kd.R_alloc | apply Kd.R_drewN | apply Kd.R_drew)); exact Bj.out), (by (with_reducible repeat (first | apply Kd.R_alloc | apply Kd.R_drewN | apply Kd.R_drew)); exact Bz.out), (by (with_reducible repeat (first | refine blk_drewN ?_ _ | refine blk_drew ?_ | refine blk_alloc ?_ _)); exact Ag.out), (by (with_reducible repeat (first | refine blk_drewN ?_ _ | refine blk_drew ?_ | refine blk_alloc ?_ _)); exact Ah.out), GW355.out, Ap.out, At.out, Ax.out, (by repeat (first | (with_reducible first | exact HB.out | apply below_alloc | apply pw_below_drewN | apply below_drew1 | refine below_set ?_ Am.out | refine below_set ?_ Ap.out) | exact HB.out))⟩)
    ·
     skip
     refine box_step ?hg (N := 3) ?hd (cs := #[.slice none 0 0, .slice none 0 0]) (t := 25) ?hr ?_; (case hd => rfl); (case hg => rfl); (case hr => first | (go_simp; done) | (go_simp; rfl))
     intro Ak hg w10 hbox hb
     have Ba := Aside0.mk (Kd.R_below (by (with_reducible repeat (first | apply Kd.R_alloc | apply Kd.R_drewN | apply Kd.R_drew)); exact Bj.out) hb)
     have Bb := Aside0.mk (blk_below (g := Al) (o := .cells #[.slice A0_0 l0_0.length c0_0, .slice A0_1 l0_1.length c0_1] 25 (0, 0)) (by (with_reducible repeat (first | refine blk_drewN ?_ _ | refine blk_drew ?_ | refine blk_alloc ?_ _)); exact Ag.out) hb)
     have Bg := Aside0.mk (below_step (by repeat (first | (with_reducible first | exact HB.out | apply below_alloc | apply pw_below_drewN | apply below_drew1 | refine below_set ?_ Am.out) | exact HB.out)) hb)
     have Bi := Aside0.mk (hbox)
     have Bk := Aside0.mk ((by rw [hg]; exact (below_size (by repeat (first | (with_reducible first | exact HB.out | apply below_alloc | apply pw_below_drewN | apply below_drew1 | refine below_set ?_ Am.out) | exact HB.out))) : w.heap.size ≤ Ak))
     have Bn := Aside0.mk ((by rw [hg]; exact (below_size (by repeat (first | (with_reducible first | exact HB.out | apply below_alloc | apply pw_below_drewN | apply below_drew1 | refine below_set ?_ Am.out) | exact HB.out))) : w.heap.size ≤ Ak))
     have Cg := Aside0.mk ((by rw [hg]; exact Nat.ne_of_lt (blk_lt (g := Al) (o := .cells #[.slice A0_0 l0_0.length c0_0, .slice A0_1 l0_1.length c0_1] 25 (0, 0)) (by (with_reducible repeat (first | refine blk_drewN ?_ _ | refine blk_drew ?_ | refine blk_alloc ?_ _)); exact Ag.out)) : Al ≠ Ak))
     have Cr := Aside0.mk ((by rw [hg]; exact Nat.ne_of_gt (blk_lt (g := Al) (o := .cells #[.slice A0_0 l0_0.length c0_0, .slice A0_1 l0_1.length c0_1] 25 (0, 0)) (by (with_reducible repeat (first | refine blk_drewN ?_ _ | refine blk_drew ?_ | refine blk_alloc ?_ _)); exact Ag.out)) : Ak ≠ Al))
     clear Bj
     clear Ag
     clear HB
     have Bj := Ba
     have Ag := Bb
     have HB := Bg
     have Ah := Bi
     have GW355 := Bk
     have Ap := Bn
     have At := Cg
     have Ax := Cr
     clear Ba Bb Bg Bi Bk Bn Cg Cr
     clear hb hbox hg
     refine hK.out _ _ ⟨(blk_cell Ag.out 0).trans rfl, (blk_cell Ag.out 1).trans rfl⟩ (fun hHeld => ?_)
     clear hK K
     refine norm_ (a' := ?_) ?_ ?_
     rotate_left
     ·
      show Act.put _ (some 3) _ = _
      simp only [Act.put, List.setIfInBounds_toArray, List.set_cons_zero, List.set_cons_succ, i64_w, i32_w]
      rfl
     refine one_ (i := 5) (N := some 19) #[true, true, true, true, true, true, false, true, false] rfl rfl (one_of HT_.out (by kernel_rfl)) (by decide) (fun K hK => ?_)
     refine goes_ Tryd.func13 (by kernel_rfl) rfl #[.slice A0_1 l0_1.length c0_1] (by rfl) rfl rfl (by (try simp only [List.map_toArray, List.map_cons, List.map_nil]); first | done | rfl | (simp only [List.length_drop, List.length_take]; rfl)) ?_
     with_reducible refine (trammellaw0_CopyNodes.calls _ _ l0_1 Cf _ ?side1 ?side2 A5.out).mono ?_
     (case side1 => repeat (first | exact (Kd.C_below Ka.out HB.out) | (with_reducible refine Kd.C_alloc ?_ _) | (with_reducible refine Kd.C_drewN ?_ _) | (with_reducible refine Kd.C_drew ?_)))
     (case side2 => exact Kb.out)
     rintro e w11 ⟨v353, rfl, ho0, hb⟩
     refine ⟨_, rfl, ?_⟩
     have Ba := Aside0.mk (Kd.R_below (by (with_reducible repeat (first | apply Kd.R_alloc | apply Kd.R_drewN | apply Kd.R_drew)); exact Bj.out) hb)
     have Bb := Aside0.mk (Kd.R_lower ho0 (below_size (by repeat (first | (with_reducible first | exact HB.out | apply below_alloc | apply pw_below_drewN | apply below_drew1 | refine below_set ?_ Am.out | refine below_set ?_ Ap.out) | exact HB.out))))
     have Bg := Aside0.mk (blk_below (g := Al) (o := .cells #[.slice A0_0 l0_0.length c0_0, .slice A0_1 l0_1.length c0_1] 25 (0, 0)) (by (with_reducible repeat (first | refine blk_drewN ?_ _ | refine blk_drew ?_ | refine blk_alloc ?_ _)); exact Ag.out) hb)
     have Bi := Aside0.mk (blk_below (g := Ak) (o := .cells #[.slice none 0 0, .slice none 0 0] 25 (0, 0)) (by (with_reducible repeat (first | refine blk_drewN ?_ _ | refine blk_drew ?_ | refine blk_alloc ?_ _)); exact Ah.out) hb)
     have Bk := Aside0.mk (below_step (by repeat (first | (with_reducible first | exact HB.out | apply below_alloc | apply pw_below_drewN | apply below_drew1 | refine below_set ?_ Am.out | refine below_set ?_ Ap.out) | exact HB.out)) hb)
     clear Bj
     clear Ag
     clear Ah
     clear HB
     have Bj := Ba
     have Bz := Bb
     have Ag := Bg
     have Ah := Bi
     have HB := Bk
     clear Ba Bb Bg Bi Bk
     (try clear hb)
     (try clear hb2)
     (try clear hk)
     (try clear hi)
     (try clear ho0)
     obtain ⟨Li, Lj, eo12⟩ := Kd.R_slice Bz.out
     (first | subst eo12 | (injection eo12 with f1_ f2_ f3_; have f4_ := f1_.symm; have f5_ := f3_.symm; clear f1_ f2_ f3_; subst f4_; subst f5_))
     obtain ⟨Ao13, co13, eo13⟩ := Kd.R_slice Bj.out
     (first | subst eo13 | (injection eo13 with f1_ f2_ f3_; have f4_ := f1_.symm; have f5_ := f3_.symm; clear f1_ f2_ f3_; subst f4_; subst f5_))
     refine hK.out _ _ ⟨(blk_cell Ag.out 0).trans rfl, (blk_cell Ag.out 1).trans rfl⟩ (fun hHeld => ?_)
     clear hK K
     refine norm_ (a' := ?_) ?_ ?_
     rotate_left
     ·
      show Act.put _ (some 19) _ = _
      simp only [Act.put, List.setIfInBounds_toArray, List.set_cons_zero, List.set_cons_succ, i64_w, i32_w]
      rfl
     refine pure_ (i := 6) (N := some 20) (v := ?_) (a' := ?_) #[true, true, true, true, true, true, true, true, false] rfl rfl (any_of HT_.out (by kernel_rfl)) (fun _ _ _ h => h) (Or.inl ⟨by rfl, ?_⟩) ?_ ?_
     rotate_left
     ·
      intro w'
      go_simp
      with_reducible rfl
     rotate_left
     ·
      simp only [Act.put, List.setIfInBounds_toArray, List.set_cons_zero, List.set_cons_succ, i64_w, i32_w]
      rfl
     exact norm_ (by simp only [putAll, Act.put, List.setIfInBounds_toArray, List.set_cons_zero, List.set_cons_succ]) (hCont (.slice Ao13 Ao.length co13, .slice Li Cf.length Lj, Ak) _ ⟨hHeld, (by (with_reducible repeat (first | apply Kd.R_alloc | apply Kd.R_drewN | apply Kd.R_drew)); exact Bj.out), (by (with_reducible repeat (first | apply Kd.R_alloc | apply Kd.R_drewN | apply Kd.R_drew)); exact Bz.out), (by (with_reducible repeat (first | refine blk_drewN ?_ _ | refine blk_drew ?_ | refine blk_alloc ?_ _)); exact Ag.out), (by (with_reducible repeat (first | refine blk_drewN ?_ _ | refine blk_drew ?_ | refine blk_alloc ?_ _)); exact Ah.out), GW355.out, Ap.out, At.out, Ax.out, (by repeat (first | (with_reducible first | exact HB.out | apply below_alloc | apply pw_below_drewN | apply below_drew1 | refine below_set ?_ Am.out | refine below_set ?_ Ap.out) | exact HB.out))⟩)
   ·
    skip
    refine box_step ?hg (N := 3) ?hd (cs := #[.slice none 0 0, .slice none 0 0]) (t := 25) ?hr ?_; (case hd => rfl); (case hg => rfl); (case hr => first | (go_simp; done) | (go_simp; rfl))
    intro Ak hg w9 hbox hb
    have Ba := Aside0.mk (blk_below (g := Al) (o := .cells #[.slice A0_0 l0_0.length c0_0, .slice A0_1 l0_1.length c0_1] 25 (0, 0)) (by (with_reducible repeat (first | refine blk_drewN ?_ _ | refine blk_drew ?_ | refine blk_alloc ?_ _)); exact Ag.out) hb)
    have Bb := Aside0.mk (below_step (by repeat (first | (with_reducible first | exact HB.out | apply below_alloc | apply pw_below_drewN | apply below_drew1 | refine below_set ?_ Am.out) | exact HB.out)) hb)
    have Bg := Aside0.mk (hbox)
    have Bi := Aside0.mk ((by rw [hg]; exact (below_size (by repeat (first | (with_reducible first | exact HB.out | apply below_alloc | apply pw_below_drewN | apply below_drew1 | refine below_set ?_ Am.out) | exact HB.out))) : w.heap.size ≤ Ak))
    have Bk := Aside0.mk ((by rw [hg]; exact (below_size (by repeat (first | (with_reducible first | exact HB.out | apply below_alloc | apply pw_below_drewN | apply below_drew1 | refine below_set ?_ Am.out) | exact HB.out))) : w.heap.size ≤ Ak))
    have Bn := Aside0.mk ((by rw [hg]; exact Nat.ne_of_lt (blk_lt (g := Al) (o := .cells #[.slice A0_0 l0_0.length c0_0, .slice A0_1 l0_1.length c0_1] 25 (0, 0)) (by (with_reducible repeat (first | refine blk_drewN ?_ _ | refine blk_drew ?_ | refine blk_alloc ?_ _)); exact Ag.out)) : Al ≠ Ak))
    have Cg := Aside0.mk ((by rw [hg]; exact Nat.ne_of_gt (blk_lt (g := Al) (o := .cells #[.slice A0_0 l0_0.length c0_0, .slice A0_1 l0_1.length c0_1] 25 (0, 0)) (by (with_reducible repeat (first | refine blk_drewN ?_ _ | refine blk_drew ?_ | refine blk_alloc ?_ _)); exact Ag.out)) : Ak ≠ Al))
    clear Ag
    clear HB
    have Ag := Ba
    have HB := Bb
    have Ah := Bg
    have GW355 := Bi
    have Ap := Bk
    have At := Bn
    have Ax := Cg
    clear Ba Bb Bg Bi Bk Bn Cg
    clear hb hbox hg
    refine hK.out _ _ ⟨(blk_cell Ag.out 0).trans rfl, (blk_cell Ag.out 1).trans rfl⟩ (fun hHeld => ?_)
    clear hK K
    refine norm_ (a' := ?_) ?_ ?_
    rotate_left
    ·
     show Act.put _ (some 3) _ = _
     simp only [Act.put, List.setIfInBounds_toArray, List.set_cons_zero, List.set_cons_succ, i64_w, i32_w]
     rfl
    refine one_ (i := 2) (N := some 16) #[true, true, true, true, true, false, false, true, false] rfl rfl (one_of HT_.out (by kernel_rfl)) (by decide) (fun K hK => ?_)
    refine goes_ Tryd.func12 (by kernel_rfl) rfl #[.slice A0_0 l0_0.length c0_0] (by rfl) rfl rfl (by (try simp only [List.map_toArray, List.map_cons, List.map_nil]); first | done | rfl | (simp only [List.length_drop, List.length_take]; rfl)) ?_
    with_reducible refine (trammellaw0_CopyOps.calls _ _ l0_0 Ao _ ?side1 ?side2 A4.out).mono ?_
    (case side1 => repeat (first | exact (Kd.C_below Kj.out HB.out) | (with_reducible refine Kd.C_alloc ?_ _) | (with_reducible refine Kd.C_drewN ?_ _) | (with_reducible refine Kd.C_drew ?_)))
    (case side2 => exact Kk.out)
    rintro e w10 ⟨v350, rfl, ho0, hb⟩
    refine ⟨_, rfl, ?_⟩
    have Ba := Aside0.mk (Kd.R_lower ho0 (below_size (by repeat (first | (with_reducible first | exact HB.out | apply below_alloc | apply pw_below_drewN | apply below_drew1 | refine below_set ?_ Am.out | refine below_set ?_ Ap.out) | exact HB.out))))
    have Bb := Aside0.mk (blk_below (g := Al) (o := .cells #[.slice A0_0 l0_0.length c0_0, .slice A0_1 l0_1.length c0_1] 25 (0, 0)) (by (with_reducible repeat (first | refine blk_drewN ?_ _ | refine blk_drew ?_ | refine blk_alloc ?_ _)); exact Ag.out) hb)
    have Bg := Aside0.mk (blk_below (g := Ak) (o := .cells #[.slice none 0 0, .slice none 0 0] 25 (0, 0)) (by (with_reducible repeat (first | refine blk_drewN ?_ _ | refine blk_drew ?_ | refine blk_alloc ?_ _)); exact Ah.out) hb)
    have Bi := Aside0.mk (below_step (by repeat (first | (with_reducible first | exact HB.out | apply below_alloc | apply pw_below_drewN | apply below_drew1 | refine below_set ?_ Am.out | refine below_set ?_ Ap.out) | exact HB.out)) hb)
    clear Ag
    clear Ah
    clear HB
    have Bj := Ba
    have Ag := Bb
    have Ah := Bg
    have HB := Bi
    clear Ba Bb Bg Bi
    (try clear hb)
    (try clear hb2)
    (try clear hk)
    (try clear hi)
    (try clear ho0)
    refine hK.out _ _ ⟨(blk_cell Ag.out 0).trans rfl, (blk_cell Ag.out 1).trans rfl⟩ (fun hHeld => ?_)
    clear hK K
    refine norm_ (a' := ?_) ?_ ?_
    rotate_left
    ·
     show Act.put _ (some 16) _ = _
     simp only [Act.put, List.setIfInBounds_toArray, List.set_cons_zero, List.set_cons_succ, i64_w, i32_w]
     rfl
    refine one_ (i := 5) (N := some 19) #[true, true, true, true, true, true, false, true, false] rfl rfl (one_of HT_.out (by kernel_rfl)) (by decide) (fun K hK => ?_)
    refine goes_ Tryd.func13 (by kernel_rfl) rfl #[.slice A0_1 l0_1.length c0_1] (by rfl) rfl rfl (by (try simp only [List.map_toArray, List.map_cons, List.map_nil]); first | done | rfl | (simp only [List.length_drop, List.length_take]; rfl)) ?_
    with_reducible refine (trammellaw0_CopyNodes.calls _ _ l0_1 Cf _ ?side1 ?side2 A5.out).mono ?_
    (case side1 => repeat (first | exact (Kd.C_below Ka.out HB.out) | (with_reducible refine Kd.C_alloc ?_ _) | (with_reducible refine Kd.C_drewN ?_ _) | (with_reducible refine Kd.C_drew ?_)))
    (case side2 => exact Kb.out)
    rintro e w11 ⟨v353, rfl, ho0, hb⟩
    refine ⟨_, rfl, ?_⟩
    have Ba := Aside0.mk (Kd.R_below (by (with_reducible repeat (first | apply Kd.R_alloc | apply Kd.R_drewN | apply Kd.R_drew)); exact Bj.out) hb)
    have Bb := Aside0.mk (Kd.R_lower ho0 (below_size (by repeat (first | (with_reducible first | exact HB.out | apply below_alloc | apply pw_below_drewN | apply below_drew1 | refine below_set ?_ Am.out | refine below_set ?_ Ap.out) | exact HB.out))))
    have Bg := Aside0.mk (blk_below (g := Al) (o := .cells #[.slice A0_0 l0_0.length c0_0, .slice A0_1 l0_1.length c0_1] 25 (0, 0)) (by (with_reducible repeat (first | refine blk_drewN ?_ _ | refine blk_drew ?_ | refine blk_alloc ?_ _)); exact Ag.out) hb)
    have Bi := Aside0.mk (blk_below (g := Ak) (o := .cells #[.slice none 0 0, .slice none 0 0] 25 (0, 0)) (by (with_reducible repeat (first | refine blk_drewN ?_ _ | refine blk_drew ?_ | refine blk_alloc ?_ _)); exact Ah.out) hb)
    have Bk := Aside0.mk (below_step (by repeat (first | (with_reducible first | exact HB.out | apply below_alloc | apply pw_below_drewN | apply below_drew1 | refine below_set ?_ Am.out | refine below_set ?_ Ap.out) | exact HB.out)) hb)
    clear Bj
    clear Ag
    clear Ah
    clear HB
    have Bj := Ba
    have Bz := Bb
    have Ag := Bg
    have Ah := Bi
    have HB := Bk
    clear Ba Bb Bg Bi Bk
    (try clear hb)
    (try clear hb2)
    (try clear hk)
    (try clear hi)
    (try clear ho0)
    obtain ⟨Li, Lj, eo12⟩ := Kd.R_slice Bz.out
    (first | subst eo12 | (injection eo12 with f1_ f2_ f3_; have f4_ := f1_.symm; have f5_ := f3_.symm; clear f1_ f2_ f3_; subst f4_; subst f5_))
    obtain ⟨Ao13, co13, eo13⟩ := Kd.R_slice Bj.out
    (first | subst eo13 | (injection eo13 with f1_ f2_ f3_; have f4_ := f1_.symm; have f5_ := f3_.symm; clear f1_ f2_ f3_; subst f4_; subst f5_))
    refine hK.out _ _ ⟨(blk_cell Ag.out 0).trans rfl, (blk_cell Ag.out 1).trans rfl⟩ (fun hHeld => ?_)
    clear hK K
    refine norm_ (a' := ?_) ?_ ?_
    rotate_left
    ·
     show Act.put _ (some 19) _ = _
     simp only [Act.put, List.setIfInBounds_toArray, List.set_cons_zero, List.set_cons_succ, i64_w, i32_w]
     rfl
    refine pure_ (i := 6) (N := some 20) (v := ?_) (a' := ?_) #[true, true, true, true, true, true, true, true, false] rfl rfl (any_of HT_.out (by kernel_rfl)) (fun _ _ _ h => h) (Or.inl ⟨by rfl, ?_⟩) ?_ ?_
    rotate_left
    ·
     intro w'
     go_simp
     with_reducible rfl
    rotate_left
    ·
     simp only [Act.put, List.setIfInBounds_toArray, List.set_cons_zero, List.set_cons_succ, i64_w, i32_w]
     rfl
    exact norm_ (by simp only [putAll, Act.put, List.setIfInBounds_toArray, List.set_cons_zero, List.set_cons_succ]) (hCont (.slice Ao13 Ao.length co13, .slice Li Cf.length Lj, Ak) _ ⟨hHeld, (by (with_reducible repeat (first | apply Kd.R_alloc | apply Kd.R_drewN | apply Kd.R_drew)); exact Bj.out), (by (with_reducible repeat (first | apply Kd.R_alloc | apply Kd.R_drewN | apply Kd.R_drew)); exact Bz.out), (by (with_reducible repeat (first | refine blk_drewN ?_ _ | refine blk_drew ?_ | refine blk_alloc ?_ _)); exact Ag.out), (by (with_reducible repeat (first | refine blk_drewN ?_ _ | refine blk_drew ?_ | refine blk_alloc ?_ _)); exact Ah.out), GW355.out, Ap.out, At.out, Ax.out, (by repeat (first | (with_reducible first | exact HB.out | apply below_alloc | apply pw_below_drewN | apply below_drew1 | refine below_set ?_ Am.out | refine below_set ?_ Ap.out) | exact HB.out))⟩)
  rintro ⟨v350, v353, Ak⟩ w14 ⟨hS_, h0_, h1_, h2_, h3_, h4_, h5_, h6_, h7_, h8_⟩
  have Ba : Aside0 (Kd.R k45 45 w14 w.heap.size (fun _ => True) v350 Ao) := ⟨h0_⟩
  have Bb : Aside0 (Kd.R k34 34 w14 w.heap.size (fun _ => True) v353 Cf) := ⟨h1_⟩
  have Bg : Aside0 (w14.heap[Al]? = some (.cells #[.slice A0_0 l0_0.length c0_0, .slice A0_1 l0_1.length c0_1] 25 (0, 0))) := ⟨h2_⟩
  have Bi : Aside0 (w14.heap[Ak]? = some (.cells #[.slice none 0 0, .slice none 0 0] 25 (0, 0))) := ⟨h3_⟩
  have Bk : Aside0 (w.heap.size ≤ Ak) := ⟨h4_⟩
  have Bn : Aside0 (w.heap.size ≤ Ak) := ⟨h5_⟩
  have Cg : Aside0 (Al ≠ Ak) := ⟨h6_⟩
  have Cr : Aside0 (Ak ≠ Al) := ⟨h7_⟩
  have Ct : Aside0 (Below w.heap.size w w14) := ⟨h8_⟩
  clear Ag
  clear HB
  clear h0_ h1_ h2_ h3_ h4_ h5_ h6_ h7_ h8_
  have Bj := Ba
  have Bz := Bb
  have Ag := Bg
  have Ah := Bi
  have GW355 := Bk
  have Ap := Bn
  have At := Cg
  have Ax := Cr
  have HB := Ct
  clear Ba Bb Bg Bi Bk Bn Cg Cr Ct
  have hHeld : w14.cell? ⟨Al, 0, none⟩ = some (.slice A0_0 l0_0.length c0_0) ∧ w14.cell? ⟨Al, 1, none⟩ = some (.slice A0_1 l0_1.length c0_1) := hS_
  obtain ⟨Ao15, co15, eo15⟩ := Kd.R_slice Bz.out
  (first | subst eo15 | (injection eo15 with f1_ f2_ f3_; have f4_ := f1_.symm; have f5_ := f3_.symm; clear f1_ f2_ f3_; subst f4_; subst f5_))
  obtain ⟨Aw, Av, eo16⟩ := Kd.R_slice Bj.out
  (first | subst eo16 | (injection eo16 with f1_ f2_ f3_; have f4_ := f1_.symm; have f5_ := f3_.symm; clear f1_ f2_ f3_; subst f4_; subst f5_))
  refine norm_ (a' := ?_) ?_ ?_
  rotate_left
  ·
   simp only [putAll, Act.put, List.setIfInBounds_toArray, List.set_cons_zero, List.set_cons_succ]
   rfl
  refine one_ (i := 8) (N := none) #[true, true, true, true, true, true, true, true, true] rfl rfl (one_of HT_.out (by kernel_rfl)) (by decide) (fun K hK => ?_)
  have hs17 : w14.cell? ⟨Ak, 0, none⟩ = some (.slice none 0 0) := (blk_cell Ah.out 0).trans rfl
  have hfs17 := blk_frozen Ah.out 0
  have hns17_0 := At.out
  have hms17_0 := Ax.out
  have hs18 : w14.cell? ⟨Ak, 1, none⟩ = some (.slice none 0 0) := (blk_cell Ah.out 1).trans rfl
  have hfs18 := blk_frozen Ah.out 1
  have hns18_0 := At.out
  have hms18_0 := Ax.out
  refine skip_ (w1 := ?_) (by rfl) rfl ?_ ?_
  rotate_left
  ·
   go_simp
   rfl
  refine hK.out _ _ ⟨((cell_far (p := ⟨Ak, _, none⟩) At.out _).trans (((cell_far (p := ⟨Ak, _, none⟩) At.out _).trans (hHeld.1)))), ((cell_far (p := ⟨Ak, _, none⟩) At.out _).trans (((cell_far (p := ⟨Ak, _, none⟩) At.out _).trans (hHeld.2))))⟩ (fun hHeld => ?_)
  clear hK K
  refine done_ (done_of HT_.out (by kernel_rfl)) ?_
  try go_wp2
  go_loopg [4] k (fun kq v4 w' => ∃ (Ab : Int) (Aa : List (S34)) (u356001 : Value), v4 = .int .i64 Ab ∧ Aside0 (trammellaw6_ScopeNames.l0 kq Ab l0_0 l0_1 Ao Aa = some r) ∧ Aside0 (kq ≤ k) ∧ Aside0 (Kd.R k45 45 w' w.heap.size (fun _ => True) (.slice Aw Ao.length Av) Ao) ∧ Aside0 (Kd.R k34 34 w' w.heap.size (fun _ => True) u356001 Aa) ∧ Aside0 (w'.heap[Al]? = some (.cells #[(.slice A0_0 l0_0.length c0_0), (.slice A0_1 l0_1.length c0_1)] 25 (0, 0))) ∧ Aside0 (w'.heap[Ak]? = some (.cells #[(.slice Aw Ao.length Av), u356001] 25 (0, 0))) ∧ Aside0 (Below w.heap.size w w'))
  case atStart => exact ⟨(0), (Cf), (.slice Ao15 Cf.length co15), (by first | rfl | (simp; done) | (simp [*]; done)), H', ⟨Nat.le_refl _⟩, ⟨by (with_reducible repeat (first | apply Kd.R_alloc | apply Kd.R_drewN | apply Kd.R_drew)); exact Kd.R_mono (Kd.R_far (p := ⟨Ak, 1, none⟩) (Kd.R_far (p := ⟨Ak, 0, none⟩) (Kd.R_types Bj.out Ah.out (by decide)) (fun _ hk => hk.2) (.slice Aw Ao.length Av)) (fun _ hk => hk.2) (.slice Ao15 Cf.length co15)) (fun _ hk => trivial)⟩, ⟨by (with_reducible repeat (first | apply Kd.R_alloc | apply Kd.R_drewN | apply Kd.R_drew)); exact Kd.R_mono (Kd.R_far (p := ⟨Ak, 1, none⟩) (Kd.R_far (p := ⟨Ak, 0, none⟩) (Kd.R_types Bz.out Ah.out (by decide)) (fun _ hk => hk.2) (.slice Aw Ao.length Av)) (fun _ hk => hk.2) (.slice Ao15 Cf.length co15)) (fun _ hk => trivial)⟩, ⟨by (with_reducible repeat (first | refine blk_drewN ?_ _ | refine blk_drew ?_ | refine blk_alloc ?_ _ | refine blk_far ?_ At.out _)); (with_reducible repeat (first | refine blk_drewN ?_ _ | refine blk_drew ?_ | refine blk_alloc ?_ _)); exact Ag.out⟩, ⟨by (with_reducible repeat (first | refine blk_drewN ?_ _ | refine blk_drew ?_ | refine blk_alloc ?_ _)); refine blk_put (cs := #[.slice Aw Ao.length Av, .slice none 0 0]) ?_ 1 _ rfl; (with_reducible repeat (first | refine blk_drewN ?_ _ | refine blk_drew ?_ | refine blk_alloc ?_ _)); refine blk_put (cs := #[.slice none 0 0, .slice none 0 0]) ?_ 0 _ rfl; (with_reducible repeat (first | refine blk_drewN ?_ _ | refine blk_drew ?_ | refine blk_alloc ?_ _)); exact Ah.out⟩, ⟨by repeat (first | (with_reducible first | exact HB.out | apply below_alloc | apply pw_below_drewN | apply below_drew1 | refine below_set ?_ Am.out | refine below_set ?_ Ap.out) | exact HB.out)⟩⟩
  case round =>
   clear H'
   try clear c1
   try clear p2
   try clear c3
   try clear c4
   try clear c7
   try clear c12
   try clear c13
   obtain ⟨Ab, Aa, u356001, rfl, HA, HK1, Af, Ad, Ag, Ah, HB⟩ := hrel
   cases gk with
   | zero => exact absurd HA.out (by simp [trammellaw6_ScopeNames.l0])
   | succ k1 =>
    have H := HA.out
    clear HA
    simp only [trammellaw6_ScopeNames.l0] at H
    by_cases c19 : Ab < (Aa.length : Int)
    ·
     rw [if_pos c19] at H
     have Kc : decide (Ab < (Aa.length : Int)) = true := decide_eq_true c19
     clear c19
     by_cases c20 : 0 ≤ Ab
     ·
      rw [if_pos c20] at H
      have Kl : decide (0 ≤ Ab) = true := decide_eq_true c20
      clear c20
      have HC21 := Aside0.mk H
      clear H
      have hnb22 := Ax.out
      have hnc22 := At.out
      have Dg : wr.cell? ⟨Ak, 0, none⟩ = some (.slice Aw Ao.length Av) := (blk_cell Ah.out 0).trans rfl
      have Dh : wr.cell? ⟨Ak, 1, none⟩ = some (u356001) := (blk_cell Ah.out 1).trans rfl
      have Di := blk_frozen Ah.out 0
      have Dj := blk_frozen Ah.out 1
      obtain ⟨Ao24, Bc, eo24⟩ := Kd.R_slice Ad.out
      subst eo24
      have Ki : 0 ≤ (Ab : Int) := of_decide_eq_true (by first | (with_reducible assumption) | assumption)
      have q356 : Ab < (Aa.length : Int) := of_decide_eq_true (by first | (with_reducible assumption) | assumption)
      obtain ⟨Bl, e356, hx356_0, hx356_1, hx356_2, hx356_3, hx356_4, hx356_5, hx356_6, hx356_7, hx356_8, hx356_9⟩ := at_T34 (Kd.R_reads' Ad.out).2.2 Ab Ki q356
      cases e356
      replace Ki := eq_true Ki
      replace q356 := eq_true q356
      go_upto_region 8 with (first | ((with_reducible refine gate_dst (N := 5) rfl ?_); (try (refine gate_guard (by rfl) ?_; dsimp only)); refine box_event ?hg (N := 5) ?hd (cs := #[.int .i64 0, .int .i64 0, .int .i64 0, .int .i64 0, .int .i64 0, .string (⟨#[]⟩ : ByteArray), .string (⟨#[]⟩ : ByteArray), .string (⟨#[]⟩ : ByteArray), .string (⟨#[]⟩ : ByteArray), .int .i64 0]) (t := 34) ?hr ?_; (case hd => rfl); (case hg => rfl); (case hr => first | (go_simp; done) | (go_simp; rfl)); intro Ae hg w25 hbox hb; have Ba := Aside0.mk (Kd.R_below (by (with_reducible repeat (first | apply Kd.R_alloc | apply Kd.R_drewN | apply Kd.R_drew)); exact Af.out) hb); have Bb := Aside0.mk (Kd.R_below (Kd.R_elderB (by (with_reducible repeat (first | apply Kd.R_alloc | apply Kd.R_drewN | apply Kd.R_drew)); exact Ad.out) Ae (Nat.le_of_eq hg.symm)) hb); have Bg := Aside0.mk (blk_below (g := Al) (o := .cells #[.slice A0_0 l0_0.length c0_0, .slice A0_1 l0_1.length c0_1] 25 (0, 0)) (by (with_reducible repeat (first | refine blk_drewN ?_ _ | refine blk_drew ?_ | refine blk_alloc ?_ _)); exact Ag.out) hb); have Bi := Aside0.mk (blk_below (g := Ak) (o := .cells #[.slice Aw Ao.length Av, .slice (some Bl) Aa.length Bc] 25 (0, 0)) (by (with_reducible repeat (first | refine blk_drewN ?_ _ | refine blk_drew ?_ | refine blk_alloc ?_ _)); exact Ah.out) hb); have Bk := Aside0.mk (below_step (by repeat (first | (with_reducible first | exact HB.out | apply below_alloc | apply pw_below_drewN | apply below_drew1 | refine below_set ?_ Am.out | refine below_set ?_ Ap.out) | exact HB.out)) hb); have Bn := Aside0.mk (hbox); have Cg := Aside0.mk ((by rw [hg]; exact (below_size (by repeat (first | (with_reducible first | exact HB.out | apply below_alloc | apply pw_below_drewN | apply below_drew1 | refine below_set ?_ Am.out | refine below_set ?_ Ap.out) | exact HB.out))) : w.heap.size ≤ Ae)); have Cr := Aside0.mk ((by rw [hg]; exact (below_size (by repeat (first | (with_reducible first | exact HB.out | apply below_alloc | apply pw_below_drewN | apply below_drew1 | refine below_set ?_ Am.out | refine below_set ?_ Ap.out) | exact HB.out))) : w.heap.size ≤ Ae)); have Ct := Aside0.mk ((by rw [hg]; exact Nat.ne_of_lt (blk_lt (g := Al) (o := .cells #[.slice A0_0 l0_0.length c0_0, .slice A0_1 l0_1.length c0_1] 25 (0, 0)) (by (with_reducible repeat (first | refine blk_drewN ?_ _ | refine blk_drew ?_ | refine blk_alloc ?_ _)); exact Ag.out)) : Al ≠ Ae)); have Hh := Aside0.mk ((by rw [hg]; exact Nat.ne_of_gt (blk_lt (g := Al) (o := .cells #[.slice A0_0 l0_0.length c0_0, .slice A0_1 l0_1.length c0_1] 25 (0, 0)) (by (with_reducible repeat (first | refine blk_drewN ?_ _ | refine blk_drew ?_ | refine blk_alloc ?_ _)); exact Ag.out)) : Ae ≠ Al)); have n10_ := Aside0.mk ((by rw [hg]; exact Nat.ne_of_lt (blk_lt (g := Ak) (o := .cells #[.slice Aw Ao.length Av, .slice (some Bl) Aa.length Bc] 25 (0, 0)) (by (with_reducible repeat (first | refine blk_drewN ?_ _ | refine blk_drew ?_ | refine blk_alloc ?_ _)); exact Ah.out)) : Ak ≠ Ae)); have n11_ := Aside0.mk ((by rw [hg]; exact Nat.ne_of_gt (blk_lt (g := Ak) (o := .cells #[.slice Aw Ao.length Av, .slice (some Bl) Aa.length Bc] 25 (0, 0)) (by (with_reducible repeat (first | refine blk_drewN ?_ _ | refine blk_drew ?_ | refine blk_alloc ?_ _)); exact Ah.out)) : Ae ≠ Ak)); clear Af Ad Ag Ah HB; have Af := Ba; have Ad := Bb; have Ag := Bg; have Ah := Bi; have HB := Bk; have Ac := Bn; have GW357 := Cg; have Br := Cr; have Aq := Ct; have Ay := Hh; have Ar := n10_; have Az := n11_; clear Ba Bb Bg Bi Bk Bn Cg Cr Ct Hh n10_ n11_; clear hb hbox hg; have hnb26 := Ay.out; have hnc26 := Aq.out; have hnb27 := Az.out; have hnc27 := Ar.out; have Dk : w25.cell? ⟨Ae, 0, none⟩ = some (.int .i64 0) := (blk_cell Ac.out 0).trans rfl; have Dl : w25.cell? ⟨Ae, 1, none⟩ = some (.int .i64 0) := (blk_cell Ac.out 1).trans rfl; have Dm : w25.cell? ⟨Ae, 2, none⟩ = some (.int .i64 0) := (blk_cell Ac.out 2).trans rfl; have Dn : w25.cell? ⟨Ae, 3, none⟩ = some (.int .i64 0) := (blk_cell Ac.out 3).trans rfl; have Do : w25.cell? ⟨Ae, 4, none⟩ = some (.int .i64 0) := (blk_cell Ac.out 4).trans rfl; have Dp : w25.cell? ⟨Ae, 5, none⟩ = some (.string (⟨#[]⟩ : ByteArray)) := (blk_cell Ac.out 5).trans rfl; have Dq : w25.cell? ⟨Ae, 6, none⟩ = some (.string (⟨#[]⟩ : ByteArray)) := (blk_cell Ac.out 6).trans rfl; have Dr : w25.cell? ⟨Ae, 7, none⟩ = some (.string (⟨#[]⟩ : ByteArray)) := (blk_cell Ac.out 7).trans rfl; have Ds : w25.cell? ⟨Ae, 8, none⟩ = some (.string (⟨#[]⟩ : ByteArray)) := (blk_cell Ac.out 8).trans rfl; have Dt : w25.cell? ⟨Ae, 9, none⟩ = some (.int .i64 0) := (blk_cell Ac.out 9).trans rfl; have Du := blk_frozen Ac.out 0; have Dv := blk_frozen Ac.out 1; have Dw := blk_frozen Ac.out 2; have Dx := blk_frozen Ac.out 3; have Dy := blk_frozen Ac.out 4; have Dz := blk_frozen Ac.out 5; have Ea := blk_frozen Ac.out 6; have Eb := blk_frozen Ac.out 7; have Ec := blk_frozen Ac.out 8; have Ed := blk_frozen Ac.out 9))
      (try simp only [Act.put, List.setIfInBounds_toArray, List.set_cons_zero, List.set_cons_succ])
      go_cut [58] (fun v58 wc => ∃ (kq : Nat) (Hk : Bool), v58 = .bool Hk ∧ Aside0 (trammellaw6_ScopeNames.j1 kq Ab Hk l0_0 l0_1 Ao Aa ((rd_T34 Aa Ab).f0) ((rd_T34 Aa Ab).f1) ((rd_T34 Aa Ab).f2) ((rd_T34 Aa Ab).f3) ((rd_T34 Aa Ab).f4) ((rd_T34 Aa Ab).f5) ((rd_T34 Aa Ab).f6) ((rd_T34 Aa Ab).f7) ((rd_T34 Aa Ab).f8) ((rd_T34 Aa Ab).f9) = some r) ∧ Aside0 (kq ≤ k1) ∧ Aside0 (Kd.R k45 45 wc w.heap.size (fun _ => True) (.slice Aw Ao.length Av) Ao) ∧ Aside0 (Kd.R k34 34 wc w.heap.size (fun k_ => k_ ≠ Ae) (.slice (some Bl) Aa.length Bc) Aa) ∧ Aside0 (wc.heap[Al]? = some (.cells #[(.slice A0_0 l0_0.length c0_0), (.slice A0_1 l0_1.length c0_1)] 25 (0, 0))) ∧ Aside0 (wc.heap[Ak]? = some (.cells #[(.slice Aw Ao.length Av), (.slice (some Bl) Aa.length Bc)] 25 (0, 0))) ∧ Aside0 (wc.heap[Ae]? = some (.cells #[.int .i64 ((rd_T34 Aa Ab).f0), .int .i64 ((rd_T34 Aa Ab).f1), .int .i64 ((rd_T34 Aa Ab).f2), .int .i64 ((rd_T34 Aa Ab).f3), .int .i64 ((rd_T34 Aa Ab).f4), .string ((rd_T34 Aa Ab).f5), .string ((rd_T34 Aa Ab).f6), .string ((rd_T34 Aa Ab).f7), .string ((rd_T34 Aa Ab).f8), .int .i64 ((rd_T34 Aa Ab).f9)] 34 (0, 0))) ∧ Aside0 (Below w.heap.size w wc))
      case first =>
       have H := HC21.out
       clear HC21
       by_cases c29 : (wrap64 ((((rd_T34 Aa Ab).f5).size : Int) + 1)) > 16
       ·
        rw [if_pos c29] at H
        have Cu : decide (16 < (wrap64 ((((rd_T34 Aa Ab).f5).size : Int) + 1))) = true := decide_eq_true c29
        clear c29
        (first | rw [Cu] | (simp only [i64_w, i32_w]; rw [Cu]) | skip)
        have H' := Aside0.mk H
        clear H
        have hnb30 := Ay.out
        have hnc30 := Aq.out
        have hnb31 := Az.out
        have hnc31 := Ar.out
        have Ee : w25.cell? ⟨Ae, 0, none⟩ = some (.int .i64 0) := (blk_cell Ac.out 0).trans rfl
        have Ef : w25.cell? ⟨Ae, 1, none⟩ = some (.int .i64 0) := (blk_cell Ac.out 1).trans rfl
        have Eg : w25.cell? ⟨Ae, 2, none⟩ = some (.int .i64 0) := (blk_cell Ac.out 2).trans rfl
        have Eh : w25.cell? ⟨Ae, 3, none⟩ = some (.int .i64 0) := (blk_cell Ac.out 3).trans rfl
        have Ei : w25.cell? ⟨Ae, 4, none⟩ = some (.int .i64 0) := (blk_cell Ac.out 4).trans rfl
        have Ej : w25.cell? ⟨Ae, 5, none⟩ = some (.string (⟨#[]⟩ : ByteArray)) := (blk_cell Ac.out 5).trans rfl
        have Ek : w25.cell? ⟨Ae, 6, none⟩ = some (.string (⟨#[]⟩ : ByteArray)) := (blk_cell Ac.out 6).trans rfl
        have El : w25.cell? ⟨Ae, 7, none⟩ = some (.string (⟨#[]⟩ : ByteArray)) := (blk_cell Ac.out 7).trans rfl
        have Em : w25.cell? ⟨Ae, 8, none⟩ = some (.string (⟨#[]⟩ : ByteArray)) := (blk_cell Ac.out 8).trans rfl
        have En : w25.cell? ⟨Ae, 9, none⟩ = some (.int .i64 0) := (blk_cell Ac.out 9).trans rfl
        have Eo := blk_frozen Ac.out 0
        have Ep := blk_frozen Ac.out 1
        have Eq := blk_frozen Ac.out 2
        have Er := blk_frozen Ac.out 3
        have Es := blk_frozen Ac.out 4
        have Et := blk_frozen Ac.out 5
        have Eu := blk_frozen Ac.out 6
        have Ev := blk_frozen Ac.out 7
        have Ew := blk_frozen Ac.out 8
        have Ex := blk_frozen Ac.out 9
        go_wp2
        go_meet
        case rel => exact ⟨_, (true), (by first | rfl | (simp; done) | (simp [*]; done)), H', ⟨by have := HK1.out; first | omega | exact Nat.le_refl _⟩, ⟨by (with_reducible repeat (first | apply Kd.R_alloc | apply Kd.R_drewN | apply Kd.R_drew)); exact Kd.R_mono (R_far10 (g := Ae) (Kd.R_types Af.out Ac.out (by decide)) (fun _ hk => hk.2)) (fun _ hk => trivial)⟩, ⟨by (with_reducible repeat (first | apply Kd.R_alloc | apply Kd.R_drewN | apply Kd.R_drew)); exact Kd.R_mono (R_far10 (g := Ae) (Kd.R_mono Ad.out (fun k_ hk => (⟨hk, hk.2⟩ : _ ∧ k_ ≠ Ae))) (fun _ hk => hk.2)) (fun _ hk => hk.1.2)⟩, ⟨by (with_reducible repeat (first | refine blk_drewN ?_ _ | refine blk_drew ?_ | refine blk_alloc ?_ _ | refine blk_far ?_ Aq.out _)); (with_reducible repeat (first | refine blk_drewN ?_ _ | refine blk_drew ?_ | refine blk_alloc ?_ _)); exact Ag.out⟩, ⟨by (with_reducible repeat (first | refine blk_drewN ?_ _ | refine blk_drew ?_ | refine blk_alloc ?_ _ | refine blk_far ?_ Ar.out _)); (with_reducible repeat (first | refine blk_drewN ?_ _ | refine blk_drew ?_ | refine blk_alloc ?_ _)); exact Ah.out⟩, ⟨by (with_reducible repeat (first | refine blk_drewN ?_ _ | refine blk_drew ?_ | refine blk_alloc ?_ _)); refine blk_put (cs := #[.int .i64 ((rd_T34 Aa Ab).f0), .int .i64 ((rd_T34 Aa Ab).f1), .int .i64 ((rd_T34 Aa Ab).f2), .int .i64 ((rd_T34 Aa Ab).f3), .int .i64 ((rd_T34 Aa Ab).f4), .string ((rd_T34 Aa Ab).f5), .string ((rd_T34 Aa Ab).f6), .string ((rd_T34 Aa Ab).f7), .string ((rd_T34 Aa Ab).f8), .int .i64 0]) ?_ 9 _ rfl; (with_reducible repeat (first | refine blk_drewN ?_ _ | refine blk_drew ?_ | refine blk_alloc ?_ _)); refine blk_put (cs := #[.int .i64 ((rd_T34 Aa Ab).f0), .int .i64 ((rd_T34 Aa Ab).f1), .int .i64 ((rd_T34 Aa Ab).f2), .int .i64 ((rd_T34 Aa Ab).f3), .int .i64 ((rd_T34 Aa Ab).f4), .string ((rd_T34 Aa Ab).f5), .string ((rd_T34 Aa Ab).f6), .string ((rd_T34 Aa Ab).f7), .string (⟨#[]⟩ : ByteArray), .int .i64 0]) ?_ 8 _ rfl; (with_reducible repeat (first | refine blk_drewN ?_ _ | refine blk_drew ?_ | refine blk_alloc ?_ _)); refine blk_put (cs := #[.int .i64 ((rd_T34 Aa Ab).f0), .int .i64 ((rd_T34 Aa Ab).f1), .int .i64 ((rd_T34 Aa Ab).f2), .int .i64 ((rd_T34 Aa Ab).f3), .int .i64 ((rd_T34 Aa Ab).f4), .string ((rd_T34 Aa Ab).f5), .string ((rd_T34 Aa Ab).f6), .string (⟨#[]⟩ : ByteArray), .string (⟨#[]⟩ : ByteArray), .int .i64 0]) ?_ 7 _ rfl; (with_reducible repeat (first | refine blk_drewN ?_ _ | refine blk_drew ?_ | refine blk_alloc ?_ _)); refine blk_put (cs := #[.int .i64 ((rd_T34 Aa Ab).f0), .int .i64 ((rd_T34 Aa Ab).f1), .int .i64 ((rd_T34 Aa Ab).f2), .int .i64 ((rd_T34 Aa Ab).f3), .int .i64 ((rd_T34 Aa Ab).f4), .string ((rd_T34 Aa Ab).f5), .string (⟨#[]⟩ : ByteArray), .string (⟨#[]⟩ : ByteArray), .string (⟨#[]⟩ : ByteArray), .int .i64 0]) ?_ 6 _ rfl; (with_reducible repeat (first | refine blk_drewN ?_ _ | refine blk_drew ?_ | refine blk_alloc ?_ _)); refine blk_put (cs := #[.int .i64 ((rd_T34 Aa Ab).f0), .int .i64 ((rd_T34 Aa Ab).f1), .int .i64 ((rd_T34 Aa Ab).f2), .int .i64 ((rd_T34 Aa Ab).f3), .int .i64 ((rd_T34 Aa Ab).f4), .string (⟨#[]⟩ : ByteArray), .string (⟨#[]⟩ : ByteArray), .string (⟨#[]⟩ : ByteArray), .string (⟨#[]⟩ : ByteArray), .int .i64 0]) ?_ 5 _ rfl; (with_reducible repeat (first | refine blk_drewN ?_ _ | refine blk_drew ?_ | refine blk_alloc ?_ _)); refine blk_put (cs := #[.int .i64 ((rd_T34 Aa Ab).f0), .int .i64 ((rd_T34 Aa Ab).f1), .int .i64 ((rd_T34 Aa Ab).f2), .int .i64 ((rd_T34 Aa Ab).f3), .int .i64 0, .string (⟨#[]⟩ : ByteArray), .string (⟨#[]⟩ : ByteArray), .string (⟨#[]⟩ : ByteArray), .string (⟨#[]⟩ : ByteArray), .int .i64 0]) ?_ 4 _ rfl; (with_reducible repeat (first | refine blk_drewN ?_ _ | refine blk_drew ?_ | refine blk_alloc ?_ _)); refine blk_put (cs := #[.int .i64 ((rd_T34 Aa Ab).f0), .int .i64 ((rd_T34 Aa Ab).f1), .int .i64 ((rd_T34 Aa Ab).f2), .int .i64 0, .int .i64 0, .string (⟨#[]⟩ : ByteArray), .string (⟨#[]⟩ : ByteArray), .string (⟨#[]⟩ : ByteArray), .string (⟨#[]⟩ : ByteArray), .int .i64 0]) ?_ 3 _ rfl; (with_reducible repeat (first | refine blk_drewN ?_ _ | refine blk_drew ?_ | refine blk_alloc ?_ _)); refine blk_put (cs := #[.int .i64 ((rd_T34 Aa Ab).f0), .int .i64 ((rd_T34 Aa Ab).f1), .int .i64 0, .int .i64 0, .int .i64 0, .string (⟨#[]⟩ : ByteArray), .string (⟨#[]⟩ : ByteArray), .string (⟨#[]⟩ : ByteArray), .string (⟨#[]⟩ : ByteArray), .int .i64 0]) ?_ 2 _ rfl; (with_reducible repeat (first | refine blk_drewN ?_ _ | refine blk_drew ?_ | refine blk_alloc ?_ _)); refine blk_put (cs := #[.int .i64 ((rd_T34 Aa Ab).f0), .int .i64 0, .int .i64 0, .int .i64 0, .int .i64 0, .string (⟨#[]⟩ : ByteArray), .string (⟨#[]⟩ : ByteArray), .string (⟨#[]⟩ : ByteArray), .string (⟨#[]⟩ : ByteArray), .int .i64 0]) ?_ 1 _ rfl; (with_reducible repeat (first | refine blk_drewN ?_ _ | refine blk_drew ?_ | refine blk_alloc ?_ _)); refine blk_put (cs := #[.int .i64 0, .int .i64 0, .int .i64 0, .int .i64 0, .int .i64 0, .string (⟨#[]⟩ : ByteArray), .string (⟨#[]⟩ : ByteArray), .string (⟨#[]⟩ : ByteArray), .string (⟨#[]⟩ : ByteArray), .int .i64 0]) ?_ 0 _ rfl; (with_reducible repeat (first | refine blk_drewN ?_ _ | refine blk_drew ?_ | refine blk_alloc ?_ _)); exact Ac.out⟩, ⟨by repeat (first | (with_reducible first | exact HB.out | apply below_alloc | apply pw_below_drewN | apply below_drew1 | refine below_set ?_ Am.out | refine below_set ?_ Ap.out | refine below_set ?_ Br.out) | exact HB.out)⟩⟩
       ·
        rw [if_neg c29] at H
        have Cu : decide (16 < (wrap64 ((((rd_T34 Aa Ab).f5).size : Int) + 1))) = false := decide_eq_false c29
        clear c29
        (first | rw [Cu] | (simp only [i64_w, i32_w]; rw [Cu]) | skip)
        by_cases c33 : (wrap64 ((((rd_T34 Aa Ab).f6).size : Int) + 1)) > 16
        ·
         rw [if_pos c33] at H
         have Ke : decide (16 < (wrap64 ((((rd_T34 Aa Ab).f6).size : Int) + 1))) = true := decide_eq_true c33
         clear c33
         have H' := Aside0.mk H
         clear H
         have hnb34 := Ay.out
         have hnc34 := Aq.out
         have hnb35 := Az.out
         have hnc35 := Ar.out
         have Ey : w25.cell? ⟨Ae, 0, none⟩ = some (.int .i64 0) := (blk_cell Ac.out 0).trans rfl
         have Ez : w25.cell? ⟨Ae, 1, none⟩ = some (.int .i64 0) := (blk_cell Ac.out 1).trans rfl
         have Fa : w25.cell? ⟨Ae, 2, none⟩ = some (.int .i64 0) := (blk_cell Ac.out 2).trans rfl
         have Fb : w25.cell? ⟨Ae, 3, none⟩ = some (.int .i64 0) := (blk_cell Ac.out 3).trans rfl
         have Fc : w25.cell? ⟨Ae, 4, none⟩ = some (.int .i64 0) := (blk_cell Ac.out 4).trans rfl
         have Fd : w25.cell? ⟨Ae, 5, none⟩ = some (.string (⟨#[]⟩ : ByteArray)) := (blk_cell Ac.out 5).trans rfl
         have Fe : w25.cell? ⟨Ae, 6, none⟩ = some (.string (⟨#[]⟩ : ByteArray)) := (blk_cell Ac.out 6).trans rfl
         have Ff : w25.cell? ⟨Ae, 7, none⟩ = some (.string (⟨#[]⟩ : ByteArray)) := (blk_cell Ac.out 7).trans rfl
         have Fg : w25.cell? ⟨Ae, 8, none⟩ = some (.string (⟨#[]⟩ : ByteArray)) := (blk_cell Ac.out 8).trans rfl
         have Fh : w25.cell? ⟨Ae, 9, none⟩ = some (.int .i64 0) := (blk_cell Ac.out 9).trans rfl
         have Fi := blk_frozen Ac.out 0
         have Fj := blk_frozen Ac.out 1
         have Fk := blk_frozen Ac.out 2
         have Fl := blk_frozen Ac.out 3
         have Fm := blk_frozen Ac.out 4
         have Fn := blk_frozen Ac.out 5
         have Fo := blk_frozen Ac.out 6
         have Fp := blk_frozen Ac.out 7
         have Fq := blk_frozen Ac.out 8
         have Fr := blk_frozen Ac.out 9
         go_wp2
         go_meet
         case rel => exact ⟨_, (true), (by first | rfl | (simp; done) | (simp [*]; done)), H', ⟨by have := HK1.out; first | omega | exact Nat.le_refl _⟩, ⟨by (with_reducible repeat (first | apply Kd.R_alloc | apply Kd.R_drewN | apply Kd.R_drew)); exact Kd.R_mono (R_far10 (g := Ae) (Kd.R_types Af.out Ac.out (by decide)) (fun _ hk => hk.2)) (fun _ hk => trivial)⟩, ⟨by (with_reducible repeat (first | apply Kd.R_alloc | apply Kd.R_drewN | apply Kd.R_drew)); exact Kd.R_mono (R_far10 (g := Ae) (Kd.R_mono Ad.out (fun k_ hk => (⟨hk, hk.2⟩ : _ ∧ k_ ≠ Ae))) (fun _ hk => hk.2)) (fun _ hk => hk.1.2)⟩, ⟨by (with_reducible repeat (first | refine blk_drewN ?_ _ | refine blk_drew ?_ | refine blk_alloc ?_ _ | refine blk_far ?_ Aq.out _)); (with_reducible repeat (first | refine blk_drewN ?_ _ | refine blk_drew ?_ | refine blk_alloc ?_ _)); exact Ag.out⟩, ⟨by (with_reducible repeat (first | refine blk_drewN ?_ _ | refine blk_drew ?_ | refine blk_alloc ?_ _ | refine blk_far ?_ Ar.out _)); (with_reducible repeat (first | refine blk_drewN ?_ _ | refine blk_drew ?_ | refine blk_alloc ?_ _)); exact Ah.out⟩, ⟨by (with_reducible repeat (first | refine blk_drewN ?_ _ | refine blk_drew ?_ | refine blk_alloc ?_ _)); refine blk_put (cs := #[.int .i64 ((rd_T34 Aa Ab).f0), .int .i64 ((rd_T34 Aa Ab).f1), .int .i64 ((rd_T34 Aa Ab).f2), .int .i64 ((rd_T34 Aa Ab).f3), .int .i64 ((rd_T34 Aa Ab).f4), .string ((rd_T34 Aa Ab).f5), .string ((rd_T34 Aa Ab).f6), .string ((rd_T34 Aa Ab).f7), .string ((rd_T34 Aa Ab).f8), .int .i64 0]) ?_ 9 _ rfl; (with_reducible repeat (first | refine blk_drewN ?_ _ | refine blk_drew ?_ | refine blk_alloc ?_ _)); refine blk_put (cs := #[.int .i64 ((rd_T34 Aa Ab).f0), .int .i64 ((rd_T34 Aa Ab).f1), .int .i64 ((rd_T34 Aa Ab).f2), .int .i64 ((rd_T34 Aa Ab).f3), .int .i64 ((rd_T34 Aa Ab).f4), .string ((rd_T34 Aa Ab).f5), .string ((rd_T34 Aa Ab).f6), .string ((rd_T34 Aa Ab).f7), .string (⟨#[]⟩ : ByteArray), .int .i64 0]) ?_ 8 _ rfl; (with_reducible repeat (first | refine blk_drewN ?_ _ | refine blk_drew ?_ | refine blk_alloc ?_ _)); refine blk_put (cs := #[.int .i64 ((rd_T34 Aa Ab).f0), .int .i64 ((rd_T34 Aa Ab).f1), .int .i64 ((rd_T34 Aa Ab).f2), .int .i64 ((rd_T34 Aa Ab).f3), .int .i64 ((rd_T34 Aa Ab).f4), .string ((rd_T34 Aa Ab).f5), .string ((rd_T34 Aa Ab).f6), .string (⟨#[]⟩ : ByteArray), .string (⟨#[]⟩ : ByteArray), .int .i64 0]) ?_ 7 _ rfl; (with_reducible repeat (first | refine blk_drewN ?_ _ | refine blk_drew ?_ | refine blk_alloc ?_ _)); refine blk_put (cs := #[.int .i64 ((rd_T34 Aa Ab).f0), .int .i64 ((rd_T34 Aa Ab).f1), .int .i64 ((rd_T34 Aa Ab).f2), .int .i64 ((rd_T34 Aa Ab).f3), .int .i64 ((rd_T34 Aa Ab).f4), .string ((rd_T34 Aa Ab).f5), .string (⟨#[]⟩ : ByteArray), .string (⟨#[]⟩ : ByteArray), .string (⟨#[]⟩ : ByteArray), .int .i64 0]) ?_ 6 _ rfl; (with_reducible repeat (first | refine blk_drewN ?_ _ | refine blk_drew ?_ | refine blk_alloc ?_ _)); refine blk_put (cs := #[.int .i64 ((rd_T34 Aa Ab).f0), .int .i64 ((rd_T34 Aa Ab).f1), .int .i64 ((rd_T34 Aa Ab).f2), .int .i64 ((rd_T34 Aa Ab).f3), .int .i64 ((rd_T34 Aa Ab).f4), .string (⟨#[]⟩ : ByteArray), .string (⟨#[]⟩ : ByteArray), .string (⟨#[]⟩ : ByteArray), .string (⟨#[]⟩ : ByteArray), .int .i64 0]) ?_ 5 _ rfl; (with_reducible repeat (first | refine blk_drewN ?_ _ | refine blk_drew ?_ | refine blk_alloc ?_ _)); refine blk_put (cs := #[.int .i64 ((rd_T34 Aa Ab).f0), .int .i64 ((rd_T34 Aa Ab).f1), .int .i64 ((rd_T34 Aa Ab).f2), .int .i64 ((rd_T34 Aa Ab).f3), .int .i64 0, .string (⟨#[]⟩ : ByteArray), .string (⟨#[]⟩ : ByteArray), .string (⟨#[]⟩ : ByteArray), .string (⟨#[]⟩ : ByteArray), .int .i64 0]) ?_ 4 _ rfl; (with_reducible repeat (first | refine blk_drewN ?_ _ | refine blk_drew ?_ | refine blk_alloc ?_ _)); refine blk_put (cs := #[.int .i64 ((rd_T34 Aa Ab).f0), .int .i64 ((rd_T34 Aa Ab).f1), .int .i64 ((rd_T34 Aa Ab).f2), .int .i64 0, .int .i64 0, .string (⟨#[]⟩ : ByteArray), .string (⟨#[]⟩ : ByteArray), .string (⟨#[]⟩ : ByteArray), .string (⟨#[]⟩ : ByteArray), .int .i64 0]) ?_ 3 _ rfl; (with_reducible repeat (first | refine blk_drewN ?_ _ | refine blk_drew ?_ | refine blk_alloc ?_ _)); refine blk_put (cs := #[.int .i64 ((rd_T34 Aa Ab).f0), .int .i64 ((rd_T34 Aa Ab).f1), .int .i64 0, .int .i64 0, .int .i64 0, .string (⟨#[]⟩ : ByteArray), .string (⟨#[]⟩ : ByteArray), .string (⟨#[]⟩ : ByteArray), .string (⟨#[]⟩ : ByteArray), .int .i64 0]) ?_ 2 _ rfl; (with_reducible repeat (first | refine blk_drewN ?_ _ | refine blk_drew ?_ | refine blk_alloc ?_ _)); refine blk_put (cs := #[.int .i64 ((rd_T34 Aa Ab).f0), .int .i64 0, .int .i64 0, .int .i64 0, .int .i64 0, .string (⟨#[]⟩ : ByteArray), .string (⟨#[]⟩ : ByteArray), .string (⟨#[]⟩ : ByteArray), .string (⟨#[]⟩ : ByteArray), .int .i64 0]) ?_ 1 _ rfl; (with_reducible repeat (first | refine blk_drewN ?_ _ | refine blk_drew ?_ | refine blk_alloc ?_ _)); refine blk_put (cs := #[.int .i64 0, .int .i64 0, .int .i64 0, .int .i64 0, .int .i64 0, .string (⟨#[]⟩ : ByteArray), .string (⟨#[]⟩ : ByteArray), .string (⟨#[]⟩ : ByteArray), .string (⟨#[]⟩ : ByteArray), .int .i64 0]) ?_ 0 _ rfl; (with_reducible repeat (first | refine blk_drewN ?_ _ | refine blk_drew ?_ | refine blk_alloc ?_ _)); exact Ac.out⟩, ⟨by repeat (first | (with_reducible first | exact HB.out | apply below_alloc | apply pw_below_drewN | apply below_drew1 | refine below_set ?_ Am.out | refine below_set ?_ Ap.out | refine below_set ?_ Br.out) | exact HB.out)⟩⟩
        ·
         rw [if_neg c33] at H
         have Ke : decide (16 < (wrap64 ((((rd_T34 Aa Ab).f6).size : Int) + 1))) = false := decide_eq_false c33
         clear c33
         by_cases c37 : (wrap64 ((((rd_T34 Aa Ab).f7).size : Int) + 1)) > 16
         ·
          rw [if_pos c37] at H
          have Kf : decide (16 < (wrap64 ((((rd_T34 Aa Ab).f7).size : Int) + 1))) = true := decide_eq_true c37
          clear c37
          have H' := Aside0.mk H
          clear H
          have hnb38 := Ay.out
          have hnc38 := Aq.out
          have hnb39 := Az.out
          have hnc39 := Ar.out
          have Fs : w25.cell? ⟨Ae, 0, none⟩ = some (.int .i64 0) := (blk_cell Ac.out 0).trans rfl
          have Ft : w25.cell? ⟨Ae, 1, none⟩ = some (.int .i64 0) := (blk_cell Ac.out 1).trans rfl
          have Fu : w25.cell? ⟨Ae, 2, none⟩ = some (.int .i64 0) := (blk_cell Ac.out 2).trans rfl
          have Fv : w25.cell? ⟨Ae, 3, none⟩ = some (.int .i64 0) := (blk_cell Ac.out 3).trans rfl
          have Fw : w25.cell? ⟨Ae, 4, none⟩ = some (.int .i64 0) := (blk_cell Ac.out 4).trans rfl
          have Fx : w25.cell? ⟨Ae, 5, none⟩ = some (.string (⟨#[]⟩ : ByteArray)) := (blk_cell Ac.out 5).trans rfl
          have Fy : w25.cell? ⟨Ae, 6, none⟩ = some (.string (⟨#[]⟩ : ByteArray)) := (blk_cell Ac.out 6).trans rfl
          have Fz : w25.cell? ⟨Ae, 7, none⟩ = some (.string (⟨#[]⟩ : ByteArray)) := (blk_cell Ac.out 7).trans rfl
          have Ga : w25.cell? ⟨Ae, 8, none⟩ = some (.string (⟨#[]⟩ : ByteArray)) := (blk_cell Ac.out 8).trans rfl
          have Gb : w25.cell? ⟨Ae, 9, none⟩ = some (.int .i64 0) := (blk_cell Ac.out 9).trans rfl
          have Gc := blk_frozen Ac.out 0
          have Gd := blk_frozen Ac.out 1
          have Ge := blk_frozen Ac.out 2
          have Gf := blk_frozen Ac.out 3
          have Gg := blk_frozen Ac.out 4
          have Gh := blk_frozen Ac.out 5
          have Gi := blk_frozen Ac.out 6
          have Gj := blk_frozen Ac.out 7
          have Gk := blk_frozen Ac.out 8
          have Gl := blk_frozen Ac.out 9
          go_wp2
          go_meet
          case rel => exact ⟨_, (true), (by first | rfl | (simp; done) | (simp [*]; done)), H', ⟨by have := HK1.out; first | omega | exact Nat.le_refl _⟩, ⟨by (with_reducible repeat (first | apply Kd.R_alloc | apply Kd.R_drewN | apply Kd.R_drew)); exact Kd.R_mono (R_far10 (g := Ae) (Kd.R_types Af.out Ac.out (by decide)) (fun _ hk => hk.2)) (fun _ hk => trivial)⟩, ⟨by (with_reducible repeat (first | apply Kd.R_alloc | apply Kd.R_drewN | apply Kd.R_drew)); exact Kd.R_mono (R_far10 (g := Ae) (Kd.R_mono Ad.out (fun k_ hk => (⟨hk, hk.2⟩ : _ ∧ k_ ≠ Ae))) (fun _ hk => hk.2)) (fun _ hk => hk.1.2)⟩, ⟨by (with_reducible repeat (first | refine blk_drewN ?_ _ | refine blk_drew ?_ | refine blk_alloc ?_ _ | refine blk_far ?_ Aq.out _)); (with_reducible repeat (first | refine blk_drewN ?_ _ | refine blk_drew ?_ | refine blk_alloc ?_ _)); exact Ag.out⟩, ⟨by (with_reducible repeat (first | refine blk_drewN ?_ _ | refine blk_drew ?_ | refine blk_alloc ?_ _ | refine blk_far ?_ Ar.out _)); (with_reducible repeat (first | refine blk_drewN ?_ _ | refine blk_drew ?_ | refine blk_alloc ?_ _)); exact Ah.out⟩, ⟨by (with_reducible repeat (first | refine blk_drewN ?_ _ | refine blk_drew ?_ | refine blk_alloc ?_ _)); refine blk_put (cs := #[.int .i64 ((rd_T34 Aa Ab).f0), .int .i64 ((rd_T34 Aa Ab).f1), .int .i64 ((rd_T34 Aa Ab).f2), .int .i64 ((rd_T34 Aa Ab).f3), .int .i64 ((rd_T34 Aa Ab).f4), .string ((rd_T34 Aa Ab).f5), .string ((rd_T34 Aa Ab).f6), .string ((rd_T34 Aa Ab).f7), .string ((rd_T34 Aa Ab).f8), .int .i64 0]) ?_ 9 _ rfl; (with_reducible repeat (first | refine blk_drewN ?_ _ | refine blk_drew ?_ | refine blk_alloc ?_ _)); refine blk_put (cs := #[.int .i64 ((rd_T34 Aa Ab).f0), .int .i64 ((rd_T34 Aa Ab).f1), .int .i64 ((rd_T34 Aa Ab).f2), .int .i64 ((rd_T34 Aa Ab).f3), .int .i64 ((rd_T34 Aa Ab).f4), .string ((rd_T34 Aa Ab).f5), .string ((rd_T34 Aa Ab).f6), .string ((rd_T34 Aa Ab).f7), .string (⟨#[]⟩ : ByteArray), .int .i64 0]) ?_ 8 _ rfl; (with_reducible repeat (first | refine blk_drewN ?_ _ | refine blk_drew ?_ | refine blk_alloc ?_ _)); refine blk_put (cs := #[.int .i64 ((rd_T34 Aa Ab).f0), .int .i64 ((rd_T34 Aa Ab).f1), .int .i64 ((rd_T34 Aa Ab).f2), .int .i64 ((rd_T34 Aa Ab).f3), .int .i64 ((rd_T34 Aa Ab).f4), .string ((rd_T34 Aa Ab).f5), .string ((rd_T34 Aa Ab).f6), .string (⟨#[]⟩ : ByteArray), .string (⟨#[]⟩ : ByteArray), .int .i64 0]) ?_ 7 _ rfl; (with_reducible repeat (first | refine blk_drewN ?_ _ | refine blk_drew ?_ | refine blk_alloc ?_ _)); refine blk_put (cs := #[.int .i64 ((rd_T34 Aa Ab).f0), .int .i64 ((rd_T34 Aa Ab).f1), .int .i64 ((rd_T34 Aa Ab).f2), .int .i64 ((rd_T34 Aa Ab).f3), .int .i64 ((rd_T34 Aa Ab).f4), .string ((rd_T34 Aa Ab).f5), .string (⟨#[]⟩ : ByteArray), .string (⟨#[]⟩ : ByteArray), .string (⟨#[]⟩ : ByteArray), .int .i64 0]) ?_ 6 _ rfl; (with_reducible repeat (first | refine blk_drewN ?_ _ | refine blk_drew ?_ | refine blk_alloc ?_ _)); refine blk_put (cs := #[.int .i64 ((rd_T34 Aa Ab).f0), .int .i64 ((rd_T34 Aa Ab).f1), .int .i64 ((rd_T34 Aa Ab).f2), .int .i64 ((rd_T34 Aa Ab).f3), .int .i64 ((rd_T34 Aa Ab).f4), .string (⟨#[]⟩ : ByteArray), .string (⟨#[]⟩ : ByteArray), .string (⟨#[]⟩ : ByteArray), .string (⟨#[]⟩ : ByteArray), .int .i64 0]) ?_ 5 _ rfl; (with_reducible repeat (first | refine blk_drewN ?_ _ | refine blk_drew ?_ | refine blk_alloc ?_ _)); refine blk_put (cs := #[.int .i64 ((rd_T34 Aa Ab).f0), .int .i64 ((rd_T34 Aa Ab).f1), .int .i64 ((rd_T34 Aa Ab).f2), .int .i64 ((rd_T34 Aa Ab).f3), .int .i64 0, .string (⟨#[]⟩ : ByteArray), .string (⟨#[]⟩ : ByteArray), .string (⟨#[]⟩ : ByteArray), .string (⟨#[]⟩ : ByteArray), .int .i64 0]) ?_ 4 _ rfl; (with_reducible repeat (first | refine blk_drewN ?_ _ | refine blk_drew ?_ | refine blk_alloc ?_ _)); refine blk_put (cs := #[.int .i64 ((rd_T34 Aa Ab).f0), .int .i64 ((rd_T34 Aa Ab).f1), .int .i64 ((rd_T34 Aa Ab).f2), .int .i64 0, .int .i64 0, .string (⟨#[]⟩ : ByteArray), .string (⟨#[]⟩ : ByteArray), .string (⟨#[]⟩ : ByteArray), .string (⟨#[]⟩ : ByteArray), .int .i64 0]) ?_ 3 _ rfl; (with_reducible repeat (first | refine blk_drewN ?_ _ | refine blk_drew ?_ | refine blk_alloc ?_ _)); refine blk_put (cs := #[.int .i64 ((rd_T34 Aa Ab).f0), .int .i64 ((rd_T34 Aa Ab).f1), .int .i64 0, .int .i64 0, .int .i64 0, .string (⟨#[]⟩ : ByteArray), .string (⟨#[]⟩ : ByteArray), .string (⟨#[]⟩ : ByteArray), .string (⟨#[]⟩ : ByteArray), .int .i64 0]) ?_ 2 _ rfl; (with_reducible repeat (first | refine blk_drewN ?_ _ | refine blk_drew ?_ | refine blk_alloc ?_ _)); refine blk_put (cs := #[.int .i64 ((rd_T34 Aa Ab).f0), .int .i64 0, .int .i64 0, .int .i64 0, .int .i64 0, .string (⟨#[]⟩ : ByteArray), .string (⟨#[]⟩ : ByteArray), .string (⟨#[]⟩ : ByteArray), .string (⟨#[]⟩ : ByteArray), .int .i64 0]) ?_ 1 _ rfl; (with_reducible repeat (first | refine blk_drewN ?_ _ | refine blk_drew ?_ | refine blk_alloc ?_ _)); refine blk_put (cs := #[.int .i64 0, .int .i64 0, .int .i64 0, .int .i64 0, .int .i64 0, .string (⟨#[]⟩ : ByteArray), .string (⟨#[]⟩ : ByteArray), .string (⟨#[]⟩ : ByteArray), .string (⟨#[]⟩ : ByteArray), .int .i64 0]) ?_ 0 _ rfl; (with_reducible repeat (first | refine blk_drewN ?_ _ | refine blk_drew ?_ | refine blk_alloc ?_ _)); exact Ac.out⟩, ⟨by repeat (first | (with_reducible first | exact HB.out | apply below_alloc | apply pw_below_drewN | apply below_drew1 | refine below_set ?_ Am.out | refine below_set ?_ Ap.out | refine below_set ?_ Br.out) | exact HB.out)⟩⟩
         ·
          rw [if_neg c37] at H
          have Kf : decide (16 < (wrap64 ((((rd_T34 Aa Ab).f7).size : Int) + 1))) = false := decide_eq_false c37
          clear c37
          have H' := Aside0.mk H
          clear H
          have hnb41 := Ay.out
          have hnc41 := Aq.out
          have hnb42 := Az.out
          have hnc42 := Ar.out
          have Gm : w25.cell? ⟨Ae, 0, none⟩ = some (.int .i64 0) := (blk_cell Ac.out 0).trans rfl
          have Gn : w25.cell? ⟨Ae, 1, none⟩ = some (.int .i64 0) := (blk_cell Ac.out 1).trans rfl
          have Gp : w25.cell? ⟨Ae, 2, none⟩ = some (.int .i64 0) := (blk_cell Ac.out 2).trans rfl
          have Gq : w25.cell? ⟨Ae, 3, none⟩ = some (.int .i64 0) := (blk_cell Ac.out 3).trans rfl
          have Gr : w25.cell? ⟨Ae, 4, none⟩ = some (.int .i64 0) := (blk_cell Ac.out 4).trans rfl
          have Gs : w25.cell? ⟨Ae, 5, none⟩ = some (.string (⟨#[]⟩ : ByteArray)) := (blk_cell Ac.out 5).trans rfl
          have Gt : w25.cell? ⟨Ae, 6, none⟩ = some (.string (⟨#[]⟩ : ByteArray)) := (blk_cell Ac.out 6).trans rfl
          have Gu : w25.cell? ⟨Ae, 7, none⟩ = some (.string (⟨#[]⟩ : ByteArray)) := (blk_cell Ac.out 7).trans rfl
          have Gv : w25.cell? ⟨Ae, 8, none⟩ = some (.string (⟨#[]⟩ : ByteArray)) := (blk_cell Ac.out 8).trans rfl
          have Gw : w25.cell? ⟨Ae, 9, none⟩ = some (.int .i64 0) := (blk_cell Ac.out 9).trans rfl
          have Gx := blk_frozen Ac.out 0
          have Gy := blk_frozen Ac.out 1
          have Gz := blk_frozen Ac.out 2
          have Ha := blk_frozen Ac.out 3
          have Hb := blk_frozen Ac.out 4
          have Hc := blk_frozen Ac.out 5
          have Hd := blk_frozen Ac.out 6
          have He := blk_frozen Ac.out 7
          have Hf := blk_frozen Ac.out 8
          have Hg := blk_frozen Ac.out 9
          go_wp2
          go_meet
          case rel => exact ⟨_, (decide ((wrap64 ((((rd_T34 Aa Ab).f8).size : Int) + 1)) > 16)), (by first | rfl | (simp; done) | (simp [*]; done)), H', ⟨by have := HK1.out; first | omega | exact Nat.le_refl _⟩, ⟨by (with_reducible repeat (first | apply Kd.R_alloc | apply Kd.R_drewN | apply Kd.R_drew)); exact Kd.R_mono (R_far10 (g := Ae) (Kd.R_types Af.out Ac.out (by decide)) (fun _ hk => hk.2)) (fun _ hk => trivial)⟩, ⟨by (with_reducible repeat (first | apply Kd.R_alloc | apply Kd.R_drewN | apply Kd.R_drew)); exact Kd.R_mono (R_far10 (g := Ae) (Kd.R_mono Ad.out (fun k_ hk => (⟨hk, hk.2⟩ : _ ∧ k_ ≠ Ae))) (fun _ hk => hk.2)) (fun _ hk => hk.1.2)⟩, ⟨by (with_reducible repeat (first | refine blk_drewN ?_ _ | refine blk_drew ?_ | refine blk_alloc ?_ _ | refine blk_far ?_ Aq.out _)); (with_reducible repeat (first | refine blk_drewN ?_ _ | refine blk_drew ?_ | refine blk_alloc ?_ _)); exact Ag.out⟩, ⟨by (with_reducible repeat (first | refine blk_drewN ?_ _ | refine blk_drew ?_ | refine blk_alloc ?_ _ | refine blk_far ?_ Ar.out _)); (with_reducible repeat (first | refine blk_drewN ?_ _ | refine blk_drew ?_ | refine blk_alloc ?_ _)); exact Ah.out⟩, ⟨by (with_reducible repeat (first | refine blk_drewN ?_ _ | refine blk_drew ?_ | refine blk_alloc ?_ _)); refine blk_put (cs := #[.int .i64 ((rd_T34 Aa Ab).f0), .int .i64 ((rd_T34 Aa Ab).f1), .int .i64 ((rd_T34 Aa Ab).f2), .int .i64 ((rd_T34 Aa Ab).f3), .int .i64 ((rd_T34 Aa Ab).f4), .string ((rd_T34 Aa Ab).f5), .string ((rd_T34 Aa Ab).f6), .string ((rd_T34 Aa Ab).f7), .string ((rd_T34 Aa Ab).f8), .int .i64 0]) ?_ 9 _ rfl; (with_reducible repeat (first | refine blk_drewN ?_ _ | refine blk_drew ?_ | refine blk_alloc ?_ _)); refine blk_put (cs := #[.int .i64 ((rd_T34 Aa Ab).f0), .int .i64 ((rd_T34 Aa Ab).f1), .int .i64 ((rd_T34 Aa Ab).f2), .int .i64 ((rd_T34 Aa Ab).f3), .int .i64 ((rd_T34 Aa Ab).f4), .string ((rd_T34 Aa Ab).f5), .string ((rd_T34 Aa Ab).f6), .string ((rd_T34 Aa Ab).f7), .string (⟨#[]⟩ : ByteArray), .int .i64 0]) ?_ 8 _ rfl; (with_reducible repeat (first | refine blk_drewN ?_ _ | refine blk_drew ?_ | refine blk_alloc ?_ _)); refine blk_put (cs := #[.int .i64 ((rd_T34 Aa Ab).f0), .int .i64 ((rd_T34 Aa Ab).f1), .int .i64 ((rd_T34 Aa Ab).f2), .int .i64 ((rd_T34 Aa Ab).f3), .int .i64 ((rd_T34 Aa Ab).f4), .string ((rd_T34 Aa Ab).f5), .string ((rd_T34 Aa Ab).f6), .string (⟨#[]⟩ : ByteArray), .string (⟨#[]⟩ : ByteArray), .int .i64 0]) ?_ 7 _ rfl; (with_reducible repeat (first | refine blk_drewN ?_ _ | refine blk_drew ?_ | refine blk_alloc ?_ _)); refine blk_put (cs := #[.int .i64 ((rd_T34 Aa Ab).f0), .int .i64 ((rd_T34 Aa Ab).f1), .int .i64 ((rd_T34 Aa Ab).f2), .int .i64 ((rd_T34 Aa Ab).f3), .int .i64 ((rd_T34 Aa Ab).f4), .string ((rd_T34 Aa Ab).f5), .string (⟨#[]⟩ : ByteArray), .string (⟨#[]⟩ : ByteArray), .string (⟨#[]⟩ : ByteArray), .int .i64 0]) ?_ 6 _ rfl; (with_reducible repeat (first | refine blk_drewN ?_ _ | refine blk_drew ?_ | refine blk_alloc ?_ _)); refine blk_put (cs := #[.int .i64 ((rd_T34 Aa Ab).f0), .int .i64 ((rd_T34 Aa Ab).f1), .int .i64 ((rd_T34 Aa Ab).f2), .int .i64 ((rd_T34 Aa Ab).f3), .int .i64 ((rd_T34 Aa Ab).f4), .string (⟨#[]⟩ : ByteArray), .string (⟨#[]⟩ : ByteArray), .string (⟨#[]⟩ : ByteArray), .string (⟨#[]⟩ : ByteArray), .int .i64 0]) ?_ 5 _ rfl; (with_reducible repeat (first | refine blk_drewN ?_ _ | refine blk_drew ?_ | refine blk_alloc ?_ _)); refine blk_put (cs := #[.int .i64 ((rd_T34 Aa Ab).f0), .int .i64 ((rd_T34 Aa Ab).f1), .int .i64 ((rd_T34 Aa Ab).f2), .int .i64 ((rd_T34 Aa Ab).f3), .int .i64 0, .string (⟨#[]⟩ : ByteArray), .string (⟨#[]⟩ : ByteArray), .string (⟨#[]⟩ : ByteArray), .string (⟨#[]⟩ : ByteArray), .int .i64 0]) ?_ 4 _ rfl; (with_reducible repeat (first | refine blk_drewN ?_ _ | refine blk_drew ?_ | refine blk_alloc ?_ _)); refine blk_put (cs := #[.int .i64 ((rd_T34 Aa Ab).f0), .int .i64 ((rd_T34 Aa Ab).f1), .int .i64 ((rd_T34 Aa Ab).f2), .int .i64 0, .int .i64 0, .string (⟨#[]⟩ : ByteArray), .string (⟨#[]⟩ : ByteArray), .string (⟨#[]⟩ : ByteArray), .string (⟨#[]⟩ : ByteArray), .int .i64 0]) ?_ 3 _ rfl; (with_reducible repeat (first | refine blk_drewN ?_ _ | refine blk_drew ?_ | refine blk_alloc ?_ _)); refine blk_put (cs := #[.int .i64 ((rd_T34 Aa Ab).f0), .int .i64 ((rd_T34 Aa Ab).f1), .int .i64 0, .int .i64 0, .int .i64 0, .string (⟨#[]⟩ : ByteArray), .string (⟨#[]⟩ : ByteArray), .string (⟨#[]⟩ : ByteArray), .string (⟨#[]⟩ : ByteArray), .int .i64 0]) ?_ 2 _ rfl; (with_reducible repeat (first | refine blk_drewN ?_ _ | refine blk_drew ?_ | refine blk_alloc ?_ _)); refine blk_put (cs := #[.int .i64 ((rd_T34 Aa Ab).f0), .int .i64 0, .int .i64 0, .int .i64 0, .int .i64 0, .string (⟨#[]⟩ : ByteArray), .string (⟨#[]⟩ : ByteArray), .string (⟨#[]⟩ : ByteArray), .string (⟨#[]⟩ : ByteArray), .int .i64 0]) ?_ 1 _ rfl; (with_reducible repeat (first | refine blk_drewN ?_ _ | refine blk_drew ?_ | refine blk_alloc ?_ _)); refine blk_put (cs := #[.int .i64 0, .int .i64 0, .int .i64 0, .int .i64 0, .int .i64 0, .string (⟨#[]⟩ : ByteArray), .string (⟨#[]⟩ : ByteArray), .string (⟨#[]⟩ : ByteArray), .string (⟨#[]⟩ : ByteArray), .int .i64 0]) ?_ 0 _ rfl; (with_reducible repeat (first | refine blk_drewN ?_ _ | refine blk_drew ?_ | refine blk_alloc ?_ _)); exact Ac.out⟩, ⟨by repeat (first | (with_reducible first | exact HB.out | apply below_alloc | apply pw_below_drewN | apply below_drew1 | refine below_set ?_ Am.out | refine below_set ?_ Ap.out | refine below_set ?_ Br.out) | exact HB.out)⟩⟩
      case rest =>
       clear HC21
       try clear c1
       try clear c2
       try clear p2
       try clear c3
       try clear p3
       try clear q3
       try clear hx3
       try clear c4
       try clear p6
       try clear c7
       try clear c12
       try clear c13
       try clear c19
       try clear Kc
       try clear c20
       try clear Kl
       try clear c22
       try clear c26
       try clear c27
       try clear c29
       try clear Cu
       try clear c30
       try clear c31
       try clear c33
       try clear Ke
       try clear c34
       try clear c35
       try clear p35
       try clear q35
       try clear hx35
       try clear c37
       try clear Kf
       try clear c38
       try clear c39
       try clear c41
       try clear c42
       try clear Dg
       try clear Dh
       try clear Dk
       try clear Dl
       try clear Dm
       try clear Dn
       try clear Do
       try clear Dp
       try clear Dq
       try clear Dr
       try clear Ds
       try clear Dt
       try clear Ee
       try clear Ef
       try clear Eg
       try clear Eh
       try clear Ei
       try clear Ej
       try clear Ek
       try clear El
       try clear Em
       try clear En
       try clear Ey
       try clear Ez
       try clear Fa
       try clear Fb
       try clear Fc
       try clear Fd
       try clear Fe
       try clear Ff
       try clear Fg
       try clear Fh
       try clear Fs
       try clear Ft
       try clear Fu
       try clear Fv
       try clear Fw
       try clear Fx
       try clear Fy
       try clear Fz
       try clear Ga
       try clear Gb
       try clear Gm
       try clear Gn
       try clear Gp
       try clear Gq
       try clear Gr
       try clear Gs
       try clear Gt
       try clear Gu
       try clear Gv
       try clear Gw
       try clear Di
       try clear Dj
       try clear Du
       try clear Dv
       try clear Dw
       try clear Dx
       try clear Dy
       try clear Dz
       try clear Ea
       try clear Eb
       try clear Ec
       try clear Ed
       try clear Eo
       try clear Ep
       try clear Eq
       try clear Er
       try clear Es
       try clear Et
       try clear Eu
       try clear Ev
       try clear Ew
       try clear Ex
       try clear Fi
       try clear Fj
       try clear Fk
       try clear Fl
       try clear Fm
       try clear Fn
       try clear Fo
       try clear Fp
       try clear Fq
       try clear Fr
       try clear Gc
       try clear Gd
       try clear Ge
       try clear Gf
       try clear Gg
       try clear Gh
       try clear Gi
       try clear Gj
       try clear Gk
       try clear Gl
       try clear Gx
       try clear Gy
       try clear Gz
       try clear Ha
       try clear Hb
       try clear Hc
       try clear Hd
       try clear He
       try clear Hf
       try clear Hg
       try clear hx356_0
       try clear hx356_1
       try clear hx356_2
       try clear hx356_3
       try clear hx356_4
       try clear hx356_5
       try clear hx356_6
       try clear hx356_7
       try clear hx356_8
       try clear hx356_9
       try clear p2
       try clear Ki
       try clear q356
       obtain ⟨kq, Hk, rfl, HA, HJ20, Af, Ad, Ag, Ah, Ac, HB⟩ := hcut
       cases kq with
       | zero => exact absurd HA.out (by simp [trammellaw6_ScopeNames.j1])
       | succ kj20 =>
        have H := HA.out
        clear HA
        simp only [trammellaw6_ScopeNames.j1] at H
        by_cases c44 : Hk = true
        ·
         subst c44
         have H1 : (some true) = some r := by rw [if_pos rfl] at H; exact H
         clear H
         have H := H1
         clear H1
         obtain rfl := Option.some.inj H
         go_wp2
         go_ret
         exact ⟨by first | rfl | (simp [errW_none, errW_some] <;> rfl) | (simp [*, errW_none, errW_some] <;> rfl), by repeat (first | (with_reducible first | exact HB.out | apply below_alloc | apply pw_below_drewN | apply below_drew1 | refine below_set ?_ Am.out | refine below_set ?_ Ap.out | refine below_set ?_ Br.out) | exact HB.out)⟩
        ·
         replace c44 := Bool.eq_false_iff.mpr c44
         subst c44
         have H1 : (if ((rd_T34 Aa Ab).f5).toList = ([] : List UInt8) then (trammellaw6_ScopeNames.j2 kj20 Ab false l0_0 l0_1 Ao Aa ((rd_T34 Aa Ab).f0) ((rd_T34 Aa Ab).f1) ((rd_T34 Aa Ab).f2) ((rd_T34 Aa Ab).f3) ((rd_T34 Aa Ab).f4) ((rd_T34 Aa Ab).f5) ((rd_T34 Aa Ab).f6) ((rd_T34 Aa Ab).f7) ((rd_T34 Aa Ab).f8) ((rd_T34 Aa Ab).f9)) else (trammellaw6_ScopeNames.j2 kj20 Ab (((rd_T34 Aa Ab).f0) == 0) l0_0 l0_1 Ao Aa ((rd_T34 Aa Ab).f0) ((rd_T34 Aa Ab).f1) ((rd_T34 Aa Ab).f2) ((rd_T34 Aa Ab).f3) ((rd_T34 Aa Ab).f4) ((rd_T34 Aa Ab).f5) ((rd_T34 Aa Ab).f6) ((rd_T34 Aa Ab).f7) ((rd_T34 Aa Ab).f8) ((rd_T34 Aa Ab).f9))) = some r := by rw [if_neg (show ¬ (false = true) by decide)] at H; exact H
         clear H
         have H := H1
         clear H1
         have HC45 := Aside0.mk H
         clear H
         go_upto_region 10 with (fail)
         go_cut [66] (fun v66 wc => ∃ (kq : Nat) (Hl : Bool), v66 = .bool Hl ∧ Aside0 (trammellaw6_ScopeNames.j2 kq Ab Hl l0_0 l0_1 Ao Aa ((rd_T34 Aa Ab).f0) ((rd_T34 Aa Ab).f1) ((rd_T34 Aa Ab).f2) ((rd_T34 Aa Ab).f3) ((rd_T34 Aa Ab).f4) ((rd_T34 Aa Ab).f5) ((rd_T34 Aa Ab).f6) ((rd_T34 Aa Ab).f7) ((rd_T34 Aa Ab).f8) ((rd_T34 Aa Ab).f9) = some r) ∧ Aside0 (kq ≤ kj20) ∧ Aside0 (Kd.R k45 45 wc w.heap.size (fun _ => True) (.slice Aw Ao.length Av) Ao) ∧ Aside0 (Kd.R k34 34 wc w.heap.size (fun k_ => k_ ≠ Ae) (.slice (some Bl) Aa.length Bc) Aa) ∧ Aside0 (wc.heap[Al]? = some (.cells #[(.slice A0_0 l0_0.length c0_0), (.slice A0_1 l0_1.length c0_1)] 25 (0, 0))) ∧ Aside0 (wc.heap[Ak]? = some (.cells #[(.slice Aw Ao.length Av), (.slice (some Bl) Aa.length Bc)] 25 (0, 0))) ∧ Aside0 (wc.heap[Ae]? = some (.cells #[.int .i64 ((rd_T34 Aa Ab).f0), .int .i64 ((rd_T34 Aa Ab).f1), .int .i64 ((rd_T34 Aa Ab).f2), .int .i64 ((rd_T34 Aa Ab).f3), .int .i64 ((rd_T34 Aa Ab).f4), .string ((rd_T34 Aa Ab).f5), .string ((rd_T34 Aa Ab).f6), .string ((rd_T34 Aa Ab).f7), .string ((rd_T34 Aa Ab).f8), .int .i64 ((rd_T34 Aa Ab).f9)] 34 (0, 0))) ∧ Aside0 (Below w.heap.size w wc))
         case first =>
          have H := HC45.out
          clear HC45
          by_cases c46 : ((rd_T34 Aa Ab).f5).toList = ([] : List UInt8)
          ·
           rw [if_pos c46] at H
           have Dd : (((rd_T34 Aa Ab).f5).toList == ([] : List UInt8)) = true := beq_iff_eq.mpr c46
           have Km : (((rd_T34 Aa Ab).f5).toList != ([] : List UInt8)) = false := bne_eq_false_iff_eq.mpr c46
           have Lk : (((rd_T34 Aa Ab).f5).toList.isEmpty) = true := by simpa using c46
           try rw [Lk]
           clear c46
           (first | rw [Dd] | (simp only [i64_w, i32_w]; rw [Dd]) | skip)
           have H' := Aside0.mk H
           clear H
           have hnb47 := Ay.out
           have hnc47 := Aq.out
           have hnb48 := Az.out
           have hnc48 := Ar.out
           have Hm : wc.cell? ⟨Ae, 0, none⟩ = some (.int .i64 ((rd_T34 Aa Ab).f0)) := (blk_cell Ac.out 0).trans rfl
           have Hn : wc.cell? ⟨Ae, 1, none⟩ = some (.int .i64 ((rd_T34 Aa Ab).f1)) := (blk_cell Ac.out 1).trans rfl
           have Ho : wc.cell? ⟨Ae, 2, none⟩ = some (.int .i64 ((rd_T34 Aa Ab).f2)) := (blk_cell Ac.out 2).trans rfl
           have Hp : wc.cell? ⟨Ae, 3, none⟩ = some (.int .i64 ((rd_T34 Aa Ab).f3)) := (blk_cell Ac.out 3).trans rfl
           have Hq : wc.cell? ⟨Ae, 4, none⟩ = some (.int .i64 ((rd_T34 Aa Ab).f4)) := (blk_cell Ac.out 4).trans rfl
           have Hr : wc.cell? ⟨Ae, 5, none⟩ = some (.string ((rd_T34 Aa Ab).f5)) := (blk_cell Ac.out 5).trans rfl
           have Hs : wc.cell? ⟨Ae, 6, none⟩ = some (.string ((rd_T34 Aa Ab).f6)) := (blk_cell Ac.out 6).trans rfl
           have Ht : wc.cell? ⟨Ae, 7, none⟩ = some (.string ((rd_T34 Aa Ab).f7)) := (blk_cell Ac.out 7).trans rfl
           have Hu : wc.cell? ⟨Ae, 8, none⟩ = some (.string ((rd_T34 Aa Ab).f8)) := (blk_cell Ac.out 8).trans rfl
           have Hv : wc.cell? ⟨Ae, 9, none⟩ = some (.int .i64 ((rd_T34 Aa Ab).f9)) := (blk_cell Ac.out 9).trans rfl
           have Hw := blk_frozen Ac.out 0
           have Hx := blk_frozen Ac.out 1
           have Hy := blk_frozen Ac.out 2
           have Hz := blk_frozen Ac.out 3
           have Ja := blk_frozen Ac.out 4
           have Jb := blk_frozen Ac.out 5
           have Jc := blk_frozen Ac.out 6
           have Jd := blk_frozen Ac.out 7
           have Je := blk_frozen Ac.out 8
           have Jf := blk_frozen Ac.out 9
           go_wp2
           go_meet
           case rel => exact ⟨_, (false), (by first | rfl | (simp; done) | (simp [*]; done)), H', ⟨by have := HK1.out; have := HJ20.out; first | omega | exact Nat.le_refl _⟩, ⟨by (with_reducible repeat (first | apply Kd.R_alloc | apply Kd.R_drewN | apply Kd.R_drew)); exact Af.out⟩, ⟨by (with_reducible repeat (first | apply Kd.R_alloc | apply Kd.R_drewN | apply Kd.R_drew)); exact Ad.out⟩, ⟨by (with_reducible repeat (first | refine blk_drewN ?_ _ | refine blk_drew ?_ | refine blk_alloc ?_ _)); exact Ag.out⟩, ⟨by (with_reducible repeat (first | refine blk_drewN ?_ _ | refine blk_drew ?_ | refine blk_alloc ?_ _)); exact Ah.out⟩, ⟨by (with_reducible repeat (first | refine blk_drewN ?_ _ | refine blk_drew ?_ | refine blk_alloc ?_ _)); exact Ac.out⟩, ⟨by repeat (first | (with_reducible first | exact HB.out | apply below_alloc | apply pw_below_drewN | apply below_drew1 | refine below_set ?_ Am.out | refine below_set ?_ Ap.out | refine below_set ?_ Br.out) | exact HB.out)⟩⟩
          ·
           rw [if_neg c46] at H
           have Dd : (((rd_T34 Aa Ab).f5).toList == ([] : List UInt8)) = false := beq_eq_false_iff_ne.mpr c46
           have Km : (((rd_T34 Aa Ab).f5).toList != ([] : List UInt8)) = true := bne_iff_ne.mpr c46
           have Lk : (((rd_T34 Aa Ab).f5).toList.isEmpty) = false := by simpa using c46
           try rw [Lk]
           (first | rw [Dd] | (simp only [i64_w, i32_w]; rw [Dd]) | skip)
           have H' := Aside0.mk H
           clear H
           have hnb50 := Ay.out
           have hnc50 := Aq.out
           have hnb51 := Az.out
           have hnc51 := Ar.out
           have Jg : wc.cell? ⟨Ae, 0, none⟩ = some (.int .i64 ((rd_T34 Aa Ab).f0)) := (blk_cell Ac.out 0).trans rfl
           have Jh : wc.cell? ⟨Ae, 1, none⟩ = some (.int .i64 ((rd_T34 Aa Ab).f1)) := (blk_cell Ac.out 1).trans rfl
           have Ji : wc.cell? ⟨Ae, 2, none⟩ = some (.int .i64 ((rd_T34 Aa Ab).f2)) := (blk_cell Ac.out 2).trans rfl
           have Jj : wc.cell? ⟨Ae, 3, none⟩ = some (.int .i64 ((rd_T34 Aa Ab).f3)) := (blk_cell Ac.out 3).trans rfl
           have Jk : wc.cell? ⟨Ae, 4, none⟩ = some (.int .i64 ((rd_T34 Aa Ab).f4)) := (blk_cell Ac.out 4).trans rfl
           have Jl : wc.cell? ⟨Ae, 5, none⟩ = some (.string ((rd_T34 Aa Ab).f5)) := (blk_cell Ac.out 5).trans rfl
           have Jm : wc.cell? ⟨Ae, 6, none⟩ = some (.string ((rd_T34 Aa Ab).f6)) := (blk_cell Ac.out 6).trans rfl
           have Jn : wc.cell? ⟨Ae, 7, none⟩ = some (.string ((rd_T34 Aa Ab).f7)) := (blk_cell Ac.out 7).trans rfl
           have Jo : wc.cell? ⟨Ae, 8, none⟩ = some (.string ((rd_T34 Aa Ab).f8)) := (blk_cell Ac.out 8).trans rfl
           have Jp : wc.cell? ⟨Ae, 9, none⟩ = some (.int .i64 ((rd_T34 Aa Ab).f9)) := (blk_cell Ac.out 9).trans rfl
           have Jq := blk_frozen Ac.out 0
           have Jr := blk_frozen Ac.out 1
           have Js := blk_frozen Ac.out 2
           have Jt := blk_frozen Ac.out 3
           have Ju := blk_frozen Ac.out 4
           have Jv := blk_frozen Ac.out 5
           have Jw := blk_frozen Ac.out 6
           have Jx := blk_frozen Ac.out 7
           have Jy := blk_frozen Ac.out 8
           have Jz := blk_frozen Ac.out 9
           go_wp2
           go_meet
           case rel => exact ⟨_, ((((rd_T34 Aa Ab).f0) == 0)), (by first | rfl | (simp; done) | (simp [*]; done)), H', ⟨by have := HK1.out; have := HJ20.out; first | omega | exact Nat.le_refl _⟩, ⟨by (with_reducible repeat (first | apply Kd.R_alloc | apply Kd.R_drewN | apply Kd.R_drew)); exact Af.out⟩, ⟨by (with_reducible repeat (first | apply Kd.R_alloc | apply Kd.R_drewN | apply Kd.R_drew)); exact Ad.out⟩, ⟨by (with_reducible repeat (first | refine blk_drewN ?_ _ | refine blk_drew ?_ | refine blk_alloc ?_ _)); exact Ag.out⟩, ⟨by (with_reducible repeat (first | refine blk_drewN ?_ _ | refine blk_drew ?_ | refine blk_alloc ?_ _)); exact Ah.out⟩, ⟨by (with_reducible repeat (first | refine blk_drewN ?_ _ | refine blk_drew ?_ | refine blk_alloc ?_ _)); exact Ac.out⟩, ⟨by repeat (first | (with_reducible first | exact HB.out | apply below_alloc | apply pw_below_drewN | apply below_drew1 | refine below_set ?_ Am.out | refine below_set ?_ Ap.out | refine below_set ?_ Br.out) | exact HB.out)⟩⟩
         case rest =>
          clear HC45
          try clear c1
          try clear c2
          try clear p2
          try clear c3
          try clear p3
          try clear q3
          try clear hx3
          try clear c4
          try clear c5
          try clear p6
          try clear c7
          try clear c12
          try clear c13
          try clear c19
          try clear Kc
          try clear c20
          try clear Kl
          try clear c22
          try clear c26
          try clear c27
          try clear c29
          try clear Cu
          try clear c30
          try clear c31
          try clear c33
          try clear Ke
          try clear c34
          try clear c35
          try clear p35
          try clear q35
          try clear hx35
          try clear c37
          try clear Kf
          try clear c38
          try clear c39
          try clear c41
          try clear c42
          try clear c44
          try clear c46
          try clear Dd
          try clear Km
          try clear c47
          try clear c48
          try clear c50
          try clear c51
          try clear Dg
          try clear Dh
          try clear Dk
          try clear Dl
          try clear Dm
          try clear Dn
          try clear Do
          try clear Dp
          try clear Dq
          try clear Dr
          try clear Ds
          try clear Dt
          try clear Ee
          try clear Ef
          try clear Eg
          try clear Eh
          try clear Ei
          try clear Ej
          try clear Ek
          try clear El
          try clear Em
          try clear En
          try clear Ey
          try clear Ez
          try clear Fa
          try clear Fb
          try clear Fc
          try clear Fd
          try clear Fe
          try clear Ff
          try clear Fg
          try clear Fh
          try clear Fs
          try clear Ft
          try clear Fu
          try clear Fv
          try clear Fw
          try clear Fx
          try clear Fy
          try clear Fz
          try clear Ga
          try clear Gb
          try clear Gm
          try clear Gn
          try clear Gp
          try clear Gq
          try clear Gr
          try clear Gs
          try clear Gt
          try clear Gu
          try clear Gv
          try clear Gw
          try clear Hm
          try clear Hn
          try clear Ho
          try clear Hp
          try clear Hq
          try clear Hr
          try clear Hs
          try clear Ht
          try clear Hu
          try clear Hv
          try clear Jg
          try clear Jh
          try clear Ji
          try clear Jj
          try clear Jk
          try clear Jl
          try clear Jm
          try clear Jn
          try clear Jo
          try clear Jp
          try clear Di
          try clear Dj
          try clear Du
          try clear Dv
          try clear Dw
          try clear Dx
          try clear Dy
          try clear Dz
          try clear Ea
          try clear Eb
          try clear Ec
          try clear Ed
          try clear Eo
          try clear Ep
          try clear Eq
          try clear Er
          try clear Es
          try clear Et
          try clear Eu
          try clear Ev
          try clear Ew
          try clear Ex
          try clear Fi
          try clear Fj
          try clear Fk
          try clear Fl
          try clear Fm
          try clear Fn
          try clear Fo
          try clear Fp
          try clear Fq
          try clear Fr
          try clear Gc
          try clear Gd
          try clear Ge
          try clear Gf
          try clear Gg
          try clear Gh
          try clear Gi
          try clear Gj
          try clear Gk
          try clear Gl
          try clear Gx
          try clear Gy
          try clear Gz
          try clear Ha
          try clear Hb
          try clear Hc
          try clear Hd
          try clear He
          try clear Hf
          try clear Hg
          try clear Hw
          try clear Hx
          try clear Hy
          try clear Hz
          try clear Ja
          try clear Jb
          try clear Jc
          try clear Jd
          try clear Je
          try clear Jf
          try clear Jq
          try clear Jr
          try clear Js
          try clear Jt
          try clear Ju
          try clear Jv
          try clear Jw
          try clear Jx
          try clear Jy
          try clear Jz
          try clear hx356_0
          try clear hx356_1
          try clear hx356_2
          try clear hx356_3
          try clear hx356_4
          try clear hx356_5
          try clear hx356_6
          try clear hx356_7
          try clear hx356_8
          try clear hx356_9
          try clear p2
          try clear p3
          try clear p35
          try clear Ki
          try clear p6
          try clear q3
          try clear q35
          try clear q356
          obtain ⟨kq, Hl, rfl, HA, HJ44, Af, Ad, Ag, Ah, Ac, HB⟩ := hcut
          cases kq with
          | zero => exact absurd HA.out (by simp [trammellaw6_ScopeNames.j2])
          | succ kj44 =>
           have H := HA.out
           clear HA
           simp only [trammellaw6_ScopeNames.j2] at H
           have HC53 := Aside0.mk H
           clear H
           go_upto_if 66 with (fail)
           go_cut [] (fun wc => ∃ (kq : Nat) (Ai : ByteArray), Aside0 (trammellaw6_ScopeNames.j3 kq Ab l0_0 l0_1 Ao Aa ((rd_T34 Aa Ab).f0) ((rd_T34 Aa Ab).f1) ((rd_T34 Aa Ab).f2) ((rd_T34 Aa Ab).f3) ((rd_T34 Aa Ab).f4) Ai ((rd_T34 Aa Ab).f6) ((rd_T34 Aa Ab).f7) ((rd_T34 Aa Ab).f8) ((rd_T34 Aa Ab).f9) = some r) ∧ Aside0 (kq ≤ kj44) ∧ Aside0 (Kd.R k45 45 wc w.heap.size (fun _ => True) (.slice Aw Ao.length Av) Ao) ∧ Aside0 (Kd.R k34 34 wc w.heap.size (fun k_ => k_ ≠ Ae) (.slice (some Bl) Aa.length Bc) Aa) ∧ Aside0 (wc.heap[Al]? = some (.cells #[(.slice A0_0 l0_0.length c0_0), (.slice A0_1 l0_1.length c0_1)] 25 (0, 0))) ∧ Aside0 (wc.heap[Ak]? = some (.cells #[(.slice Aw Ao.length Av), (.slice (some Bl) Aa.length Bc)] 25 (0, 0))) ∧ Aside0 (wc.heap[Ae]? = some (.cells #[.int .i64 ((rd_T34 Aa Ab).f0), .int .i64 ((rd_T34 Aa Ab).f1), .int .i64 ((rd_T34 Aa Ab).f2), .int .i64 ((rd_T34 Aa Ab).f3), .int .i64 ((rd_T34 Aa Ab).f4), .string Ai, .string ((rd_T34 Aa Ab).f6), .string ((rd_T34 Aa Ab).f7), .string ((rd_T34 Aa Ab).f8), .int .i64 ((rd_T34 Aa Ab).f9)] 34 (0, 0))) ∧ Aside0 (Below w.heap.size w wc))
           case first =>
            have H := HC53.out
            clear HC53
            by_cases c54 : Hl = true
            ·
             subst c54
             have H1 : (if ((rd_T34 Aa Ab).f5).size + 1 ≤ 9223372036854775807 then (trammellaw6_ScopeNames.j3 kj44 Ab l0_0 l0_1 Ao Aa ((rd_T34 Aa Ab).f0) ((rd_T34 Aa Ab).f1) ((rd_T34 Aa Ab).f2) ((rd_T34 Aa Ab).f3) ((rd_T34 Aa Ab).f4) (((rd_T34 Aa Ab).f5) ++ (⟨#[95]⟩ : ByteArray)) ((rd_T34 Aa Ab).f6) ((rd_T34 Aa Ab).f7) ((rd_T34 Aa Ab).f8) ((rd_T34 Aa Ab).f9)) else (none)) = some r := by rw [if_pos rfl] at H; exact H
             clear H
             have H := H1
             clear H1
             by_cases c55 : ((rd_T34 Aa Ab).f5).size + 1 ≤ 9223372036854775807
             ·
              rw [if_pos c55] at H
              have c55b0 := eq_true c55
              have c55b1 : decide (((rd_T34 Aa Ab).f5).size + 1 ≤ 9223372036854775807) = true := decide_eq_true c55
              try have c55b2 : (9223372036854775807 < ((rd_T34 Aa Ab).f5).size + 1) = False := eq_false (Nat.not_lt.2 c55)
              have H' := Aside0.mk H
              clear H
              have hnb56 := Ay.out
              have hnc56 := Aq.out
              have hnb57 := Az.out
              have hnc57 := Ar.out
              have Kn : wc.cell? ⟨Ae, 0, none⟩ = some (.int .i64 ((rd_T34 Aa Ab).f0)) := (blk_cell Ac.out 0).trans rfl
              have Ko : wc.cell? ⟨Ae, 1, none⟩ = some (.int .i64 ((rd_T34 Aa Ab).f1)) := (blk_cell Ac.out 1).trans rfl
              have Kp : wc.cell? ⟨Ae, 2, none⟩ = some (.int .i64 ((rd_T34 Aa Ab).f2)) := (blk_cell Ac.out 2).trans rfl
              have Kq : wc.cell? ⟨Ae, 3, none⟩ = some (.int .i64 ((rd_T34 Aa Ab).f3)) := (blk_cell Ac.out 3).trans rfl
              have Kr : wc.cell? ⟨Ae, 4, none⟩ = some (.int .i64 ((rd_T34 Aa Ab).f4)) := (blk_cell Ac.out 4).trans rfl
              have Ks : wc.cell? ⟨Ae, 5, none⟩ = some (.string ((rd_T34 Aa Ab).f5)) := (blk_cell Ac.out 5).trans rfl
              have Kt : wc.cell? ⟨Ae, 6, none⟩ = some (.string ((rd_T34 Aa Ab).f6)) := (blk_cell Ac.out 6).trans rfl
              have Ku : wc.cell? ⟨Ae, 7, none⟩ = some (.string ((rd_T34 Aa Ab).f7)) := (blk_cell Ac.out 7).trans rfl
              have Kv : wc.cell? ⟨Ae, 8, none⟩ = some (.string ((rd_T34 Aa Ab).f8)) := (blk_cell Ac.out 8).trans rfl
              have Kw : wc.cell? ⟨Ae, 9, none⟩ = some (.int .i64 ((rd_T34 Aa Ab).f9)) := (blk_cell Ac.out 9).trans rfl
              have Kx := blk_frozen Ac.out 0
              have Ky := blk_frozen Ac.out 1
              have Kz := blk_frozen Ac.out 2
              have La := blk_frozen Ac.out 3
              have Lb := blk_frozen Ac.out 4
              have Lc := blk_frozen Ac.out 5
              have Ld := blk_frozen Ac.out 6
              have Le := blk_frozen Ac.out 7
              have Lf := blk_frozen Ac.out 8
              have Lg := blk_frozen Ac.out 9
              go_wp2
              go_meet
              case rel => exact ⟨_, (((rd_T34 Aa Ab).f5) ++ (⟨#[95]⟩ : ByteArray)), H', ⟨by have := HK1.out; have := HJ20.out; have := HJ44.out; first | omega | exact Nat.le_refl _⟩, ⟨by (with_reducible repeat (first | apply Kd.R_alloc | apply Kd.R_drewN | apply Kd.R_drew)); exact Kd.R_mono (Kd.R_far (p := ⟨Ae, 5, none⟩) (Kd.R_types Af.out Ac.out (by decide)) (fun _ hk => hk.2) (.string (((rd_T34 Aa Ab).f5) ++ (⟨#[95]⟩ : ByteArray)))) (fun _ hk => trivial)⟩, ⟨by (with_reducible repeat (first | apply Kd.R_alloc | apply Kd.R_drewN | apply Kd.R_drew)); exact Kd.R_mono (Kd.R_far (p := ⟨Ae, 5, none⟩) (Kd.R_mono Ad.out (fun k_ hk => (⟨hk, hk⟩ : _ ∧ k_ ≠ Ae))) (fun _ hk => hk.2) (.string (((rd_T34 Aa Ab).f5) ++ (⟨#[95]⟩ : ByteArray)))) (fun _ hk => hk.1)⟩, ⟨by (with_reducible repeat (first | refine blk_drewN ?_ _ | refine blk_drew ?_ | refine blk_alloc ?_ _)); refine blk_far ?_ Aq.out _; (with_reducible repeat (first | refine blk_drewN ?_ _ | refine blk_drew ?_ | refine blk_alloc ?_ _)); exact Ag.out⟩, ⟨by (with_reducible repeat (first | refine blk_drewN ?_ _ | refine blk_drew ?_ | refine blk_alloc ?_ _)); refine blk_far ?_ Ar.out _; (with_reducible repeat (first | refine blk_drewN ?_ _ | refine blk_drew ?_ | refine blk_alloc ?_ _)); exact Ah.out⟩, ⟨by (with_reducible repeat (first | refine blk_drewN ?_ _ | refine blk_drew ?_ | refine blk_alloc ?_ _)); refine blk_put (cs := #[.int .i64 ((rd_T34 Aa Ab).f0), .int .i64 ((rd_T34 Aa Ab).f1), .int .i64 ((rd_T34 Aa Ab).f2), .int .i64 ((rd_T34 Aa Ab).f3), .int .i64 ((rd_T34 Aa Ab).f4), .string ((rd_T34 Aa Ab).f5), .string ((rd_T34 Aa Ab).f6), .string ((rd_T34 Aa Ab).f7), .string ((rd_T34 Aa Ab).f8), .int .i64 ((rd_T34 Aa Ab).f9)]) ?_ 5 _ rfl; (with_reducible repeat (first | refine blk_drewN ?_ _ | refine blk_drew ?_ | refine blk_alloc ?_ _)); exact Ac.out⟩, ⟨by repeat (first | (with_reducible first | exact HB.out | apply below_alloc | apply pw_below_drewN | apply below_drew1 | refine below_set ?_ Am.out | refine below_set ?_ Ap.out | refine below_set ?_ Br.out) | exact HB.out)⟩⟩
             ·
              rw [if_neg c55] at H
              exact absurd H (by simp)
            ·
             replace c54 := Bool.eq_false_iff.mpr c54
             subst c54
             have H1 : (trammellaw6_ScopeNames.j3 kj44 Ab l0_0 l0_1 Ao Aa ((rd_T34 Aa Ab).f0) ((rd_T34 Aa Ab).f1) ((rd_T34 Aa Ab).f2) ((rd_T34 Aa Ab).f3) ((rd_T34 Aa Ab).f4) ((rd_T34 Aa Ab).f5) ((rd_T34 Aa Ab).f6) ((rd_T34 Aa Ab).f7) ((rd_T34 Aa Ab).f8) ((rd_T34 Aa Ab).f9)) = some r := by rw [if_neg (show ¬ (false = true) by decide)] at H; exact H
             clear H
             have H := H1
             clear H1
             have H' := Aside0.mk H
             clear H
             go_wp2
             go_meet
             case rel => exact ⟨_, (((rd_T34 Aa Ab).f5)), H', ⟨by have := HK1.out; have := HJ20.out; have := HJ44.out; first | omega | exact Nat.le_refl _⟩, ⟨by (with_reducible repeat (first | apply Kd.R_alloc | apply Kd.R_drewN | apply Kd.R_drew)); exact Af.out⟩, ⟨by (with_reducible repeat (first | apply Kd.R_alloc | apply Kd.R_drewN | apply Kd.R_drew)); exact Ad.out⟩, ⟨by (with_reducible repeat (first | refine blk_drewN ?_ _ | refine blk_drew ?_ | refine blk_alloc ?_ _)); exact Ag.out⟩, ⟨by (with_reducible repeat (first | refine blk_drewN ?_ _ | refine blk_drew ?_ | refine blk_alloc ?_ _)); exact Ah.out⟩, ⟨by (with_reducible repeat (first | refine blk_drewN ?_ _ | refine blk_drew ?_ | refine blk_alloc ?_ _)); exact Ac.out⟩, ⟨by repeat (first | (with_reducible first | exact HB.out | apply below_alloc | apply pw_below_drewN | apply below_drew1 | refine below_set ?_ Am.out | refine below_set ?_ Ap.out | refine below_set ?_ Br.out) | exact HB.out)⟩⟩
           case rest =>
            clear HC53
            try clear c1
            try clear c2
            try clear p2
            try clear c3
            try clear p3
            try clear q3
            try clear hx3
            try clear c4
            try clear c5
            try clear p6
            try clear c7
            try clear c12
            try clear c13
            try clear c19
            try clear Kc
            try clear c20
            try clear Kl
            try clear c22
            try clear c26
            try clear c27
            try clear c29
            try clear Cu
            try clear c30
            try clear c31
            try clear c33
            try clear Ke
            try clear c34
            try clear c35
            try clear p35
            try clear q35
            try clear hx35
            try clear c37
            try clear Kf
            try clear c38
            try clear c39
            try clear c41
            try clear c42
            try clear c44
            try clear c46
            try clear Dd
            try clear Km
            try clear c47
            try clear c48
            try clear c50
            try clear c51
            try clear c54
            try clear c55
            try clear c55b0
            try clear c55b1
            try clear c55b2
            try clear c56
            try clear c57
            try clear Dg
            try clear Dh
            try clear Dk
            try clear Dl
            try clear Dm
            try clear Dn
            try clear Do
            try clear Dp
            try clear Dq
            try clear Dr
            try clear Ds
            try clear Dt
            try clear Ee
            try clear Ef
            try clear Eg
            try clear Eh
            try clear Ei
            try clear Ej
            try clear Ek
            try clear El
            try clear Em
            try clear En
            try clear Ey
            try clear Ez
            try clear Fa
            try clear Fb
            try clear Fc
            try clear Fd
            try clear Fe
            try clear Ff
            try clear Fg
            try clear Fh
            try clear Fs
            try clear Ft
            try clear Fu
            try clear Fv
            try clear Fw
            try clear Fx
            try clear Fy
            try clear Fz
            try clear Ga
            try clear Gb
            try clear Gm
            try clear Gn
            try clear Gp
            try clear Gq
            try clear Gr
            try clear Gs
            try clear Gt
            try clear Gu
            try clear Gv
            try clear Gw
            try clear Hm
            try clear Hn
            try clear Ho
            try clear Hp
            try clear Hq
            try clear Hr
            try clear Hs
            try clear Ht
            try clear Hu
            try clear Hv
            try clear Jg
            try clear Jh
            try clear Ji
            try clear Jj
            try clear Jk
            try clear Jl
            try clear Jm
            try clear Jn
            try clear Jo
            try clear Jp
            try clear Kn
            try clear Ko
            try clear Kp
            try clear Kq
            try clear Kr
            try clear Ks
            try clear Kt
            try clear Ku
            try clear Kv
            try clear Kw
            try clear Di
            try clear Dj
            try clear Du
            try clear Dv
            try clear Dw
            try clear Dx
            try clear Dy
            try clear Dz
            try clear Ea
            try clear Eb
            try clear Ec
            try clear Ed
            try clear Eo
            try clear Ep
            try clear Eq
            try clear Er
            try clear Es
            try clear Et
            try clear Eu
            try clear Ev
            try clear Ew
            try clear Ex
            try clear Fi
            try clear Fj
            try clear Fk
            try clear Fl
            try clear Fm
            try clear Fn
            try clear Fo
            try clear Fp
            try clear Fq
            try clear Fr
            try clear Gc
            try clear Gd
            try clear Ge
            try clear Gf
            try clear Gg
            try clear Gh
            try clear Gi
            try clear Gj
            try clear Gk
            try clear Gl
            try clear Gx
            try clear Gy
            try clear Gz
            try clear Ha
            try clear Hb
            try clear Hc
            try clear Hd
            try clear He
            try clear Hf
            try clear Hg
            try clear Hw
            try clear Hx
            try clear Hy
            try clear Hz
            try clear Ja
            try clear Jb
            try clear Jc
            try clear Jd
            try clear Je
            try clear Jf
            try clear Jq
            try clear Jr
            try clear Js
            try clear Jt
            try clear Ju
            try clear Jv
            try clear Jw
            try clear Jx
            try clear Jy
            try clear Jz
            try clear Kx
            try clear Ky
            try clear Kz
            try clear La
            try clear Lb
            try clear Lc
            try clear Ld
            try clear Le
            try clear Lf
            try clear Lg
            try clear hx356_0
            try clear hx356_1
            try clear hx356_2
            try clear hx356_3
            try clear hx356_4
            try clear hx356_5
            try clear hx356_6
            try clear hx356_7
            try clear hx356_8
            try clear hx356_9
            try clear p2
            try clear p3
            try clear p35
            try clear Ki
            try clear p6
            try clear q3
            try clear q35
            try clear q356
            obtain ⟨kq, Ai, HA, HJ52, Af, Ad, Ag, Ah, Ac, HB⟩ := hcut
            cases kq with
            | zero => exact absurd HA.out (by simp [trammellaw6_ScopeNames.j3])
            | succ kj52 =>
             have H := HA.out
             clear HA
             simp only [trammellaw6_ScopeNames.j3] at H
             have HC59 := Aside0.mk H
             clear H
             have hnb60 := Ay.out
             have hnc60 := Aq.out
             have hnb61 := Az.out
             have hnc61 := Ar.out
             have hcz62_0 : wc.cell? ⟨Ae, 0, none⟩ = some (.int .i64 ((rd_T34 Aa Ab).f0)) := (blk_cell Ac.out 0).trans rfl
             have hcz62_1 : wc.cell? ⟨Ae, 1, none⟩ = some (.int .i64 ((rd_T34 Aa Ab).f1)) := (blk_cell Ac.out 1).trans rfl
             have hcz62_2 : wc.cell? ⟨Ae, 2, none⟩ = some (.int .i64 ((rd_T34 Aa Ab).f2)) := (blk_cell Ac.out 2).trans rfl
             have hcz62_3 : wc.cell? ⟨Ae, 3, none⟩ = some (.int .i64 ((rd_T34 Aa Ab).f3)) := (blk_cell Ac.out 3).trans rfl
             have hcz62_4 : wc.cell? ⟨Ae, 4, none⟩ = some (.int .i64 ((rd_T34 Aa Ab).f4)) := (blk_cell Ac.out 4).trans rfl
             have hcz62_5 : wc.cell? ⟨Ae, 5, none⟩ = some (.string Ai) := (blk_cell Ac.out 5).trans rfl
             have hcz62_6 : wc.cell? ⟨Ae, 6, none⟩ = some (.string ((rd_T34 Aa Ab).f6)) := (blk_cell Ac.out 6).trans rfl
             have hcz62_7 : wc.cell? ⟨Ae, 7, none⟩ = some (.string ((rd_T34 Aa Ab).f7)) := (blk_cell Ac.out 7).trans rfl
             have hcz62_8 : wc.cell? ⟨Ae, 8, none⟩ = some (.string ((rd_T34 Aa Ab).f8)) := (blk_cell Ac.out 8).trans rfl
             have hcz62_9 : wc.cell? ⟨Ae, 9, none⟩ = some (.int .i64 ((rd_T34 Aa Ab).f9)) := (blk_cell Ac.out 9).trans rfl
             have hfz62_0 := blk_frozen Ac.out 0
             have hfz62_1 := blk_frozen Ac.out 1
             have hfz62_2 := blk_frozen Ac.out 2
             have hfz62_3 := blk_frozen Ac.out 3
             have hfz62_4 := blk_frozen Ac.out 4
             have hfz62_5 := blk_frozen Ac.out 5
             have hfz62_6 := blk_frozen Ac.out 6
             have hfz62_7 := blk_frozen Ac.out 7
             have hfz62_8 := blk_frozen Ac.out 8
             have hfz62_9 := blk_frozen Ac.out 9
             go_upto_if 73 with (fail)
             go_cut [] (fun wc => ∃ (kq : Nat) (Aj : ByteArray), Aside0 (trammellaw6_ScopeNames.j4 kq Ab l0_0 l0_1 Ao Aa ((rd_T34 Aa Ab).f0) ((rd_T34 Aa Ab).f1) ((rd_T34 Aa Ab).f2) ((rd_T34 Aa Ab).f3) ((rd_T34 Aa Ab).f4) Ai Aj ((rd_T34 Aa Ab).f7) ((rd_T34 Aa Ab).f8) ((rd_T34 Aa Ab).f9) = some r) ∧ Aside0 (kq ≤ kj52) ∧ Aside0 (Kd.R k45 45 wc w.heap.size (fun _ => True) (.slice Aw Ao.length Av) Ao) ∧ Aside0 (Kd.R k34 34 wc w.heap.size (fun k_ => k_ ≠ Ae) (.slice (some Bl) Aa.length Bc) Aa) ∧ Aside0 (wc.heap[Al]? = some (.cells #[(.slice A0_0 l0_0.length c0_0), (.slice A0_1 l0_1.length c0_1)] 25 (0, 0))) ∧ Aside0 (wc.heap[Ak]? = some (.cells #[(.slice Aw Ao.length Av), (.slice (some Bl) Aa.length Bc)] 25 (0, 0))) ∧ Aside0 (wc.heap[Ae]? = some (.cells #[.int .i64 ((rd_T34 Aa Ab).f0), .int .i64 ((rd_T34 Aa Ab).f1), .int .i64 ((rd_T34 Aa Ab).f2), .int .i64 ((rd_T34 Aa Ab).f3), .int .i64 ((rd_T34 Aa Ab).f4), .string Ai, .string Aj, .string ((rd_T34 Aa Ab).f7), .string ((rd_T34 Aa Ab).f8), .int .i64 ((rd_T34 Aa Ab).f9)] 34 (0, 0))) ∧ Aside0 (Below w.heap.size w wc))
             case first =>
              have H := HC59.out
              clear HC59
              by_cases c63 : ((rd_T34 Aa Ab).f6).toList = ([] : List UInt8)
              ·
               rw [if_pos c63] at H
               have Hj : (((rd_T34 Aa Ab).f6).toList == ([] : List UInt8)) = true := beq_iff_eq.mpr c63
               have c63b1 : (((rd_T34 Aa Ab).f6).toList != ([] : List UInt8)) = false := bne_eq_false_iff_eq.mpr c63
               have Ll : (((rd_T34 Aa Ab).f6).toList.isEmpty) = true := by simpa using c63
               try rw [Ll]
               clear c63
               (first | rw [Hj] | (simp only [i64_w, i32_w]; rw [Hj]) | skip)
               have H' := Aside0.mk H
               clear H
               go_wp2
               go_meet
               case rel => exact ⟨_, (((rd_T34 Aa Ab).f6)), H', ⟨by have := HK1.out; have := HJ20.out; have := HJ44.out; have := HJ52.out; first | omega | exact Nat.le_refl _⟩, ⟨by (with_reducible repeat (first | apply Kd.R_alloc | apply Kd.R_drewN | apply Kd.R_drew)); exact Af.out⟩, ⟨by (with_reducible repeat (first | apply Kd.R_alloc | apply Kd.R_drewN | apply Kd.R_drew)); exact Ad.out⟩, ⟨by (with_reducible repeat (first | refine blk_drewN ?_ _ | refine blk_drew ?_ | refine blk_alloc ?_ _)); exact Ag.out⟩, ⟨by (with_reducible repeat (first | refine blk_drewN ?_ _ | refine blk_drew ?_ | refine blk_alloc ?_ _)); exact Ah.out⟩, ⟨by (with_reducible repeat (first | refine blk_drewN ?_ _ | refine blk_drew ?_ | refine blk_alloc ?_ _)); exact Ac.out⟩, ⟨by repeat (first | (with_reducible first | exact HB.out | apply below_alloc | apply pw_below_drewN | apply below_drew1 | refine below_set ?_ Am.out | refine below_set ?_ Ap.out | refine below_set ?_ Br.out) | exact HB.out)⟩⟩
              ·
               rw [if_neg c63] at H
               have Hj : (((rd_T34 Aa Ab).f6).toList == ([] : List UInt8)) = false := beq_eq_false_iff_ne.mpr c63
               have c63b1 : (((rd_T34 Aa Ab).f6).toList != ([] : List UInt8)) = true := bne_iff_ne.mpr c63
               have Ll : (((rd_T34 Aa Ab).f6).toList.isEmpty) = false := by simpa using c63
               try rw [Ll]
               (first | rw [Hj] | (simp only [i64_w, i32_w]; rw [Hj]) | skip)
               by_cases c64 : ((rd_T34 Aa Ab).f6).size + 1 ≤ 9223372036854775807
               ·
                rw [if_pos c64] at H
                have c64b0 := eq_true c64
                have c64b1 : decide (((rd_T34 Aa Ab).f6).size + 1 ≤ 9223372036854775807) = true := decide_eq_true c64
                try have c64b2 : (9223372036854775807 < ((rd_T34 Aa Ab).f6).size + 1) = False := eq_false (Nat.not_lt.2 c64)
                have H' := Aside0.mk H
                clear H
                have hnb65 := Ay.out
                have hnc65 := Aq.out
                have hnb66 := Az.out
                have hnc66 := Ar.out
                have hcz67_0 : wc.cell? ⟨Ae, 0, none⟩ = some (.int .i64 ((rd_T34 Aa Ab).f0)) := (blk_cell Ac.out 0).trans rfl
                have hcz67_1 : wc.cell? ⟨Ae, 1, none⟩ = some (.int .i64 ((rd_T34 Aa Ab).f1)) := (blk_cell Ac.out 1).trans rfl
                have hcz67_2 : wc.cell? ⟨Ae, 2, none⟩ = some (.int .i64 ((rd_T34 Aa Ab).f2)) := (blk_cell Ac.out 2).trans rfl
                have hcz67_3 : wc.cell? ⟨Ae, 3, none⟩ = some (.int .i64 ((rd_T34 Aa Ab).f3)) := (blk_cell Ac.out 3).trans rfl
                have hcz67_4 : wc.cell? ⟨Ae, 4, none⟩ = some (.int .i64 ((rd_T34 Aa Ab).f4)) := (blk_cell Ac.out 4).trans rfl
                have hcz67_5 : wc.cell? ⟨Ae, 5, none⟩ = some (.string Ai) := (blk_cell Ac.out 5).trans rfl
                have hcz67_6 : wc.cell? ⟨Ae, 6, none⟩ = some (.string ((rd_T34 Aa Ab).f6)) := (blk_cell Ac.out 6).trans rfl
                have hcz67_7 : wc.cell? ⟨Ae, 7, none⟩ = some (.string ((rd_T34 Aa Ab).f7)) := (blk_cell Ac.out 7).trans rfl
                have hcz67_8 : wc.cell? ⟨Ae, 8, none⟩ = some (.string ((rd_T34 Aa Ab).f8)) := (blk_cell Ac.out 8).trans rfl
                have hcz67_9 : wc.cell? ⟨Ae, 9, none⟩ = some (.int .i64 ((rd_T34 Aa Ab).f9)) := (blk_cell Ac.out 9).trans rfl
                have hfz67_0 := blk_frozen Ac.out 0
                have hfz67_1 := blk_frozen Ac.out 1
                have hfz67_2 := blk_frozen Ac.out 2
                have hfz67_3 := blk_frozen Ac.out 3
                have hfz67_4 := blk_frozen Ac.out 4
                have hfz67_5 := blk_frozen Ac.out 5
                have hfz67_6 := blk_frozen Ac.out 6
                have hfz67_7 := blk_frozen Ac.out 7
                have hfz67_8 := blk_frozen Ac.out 8
                have hfz67_9 := blk_frozen Ac.out 9
                go_wp2
                go_meet
                case rel => exact ⟨_, (((rd_T34 Aa Ab).f6) ++ (⟨#[95]⟩ : ByteArray)), H', ⟨by have := HK1.out; have := HJ20.out; have := HJ44.out; have := HJ52.out; first | omega | exact Nat.le_refl _⟩, ⟨by (with_reducible repeat (first | apply Kd.R_alloc | apply Kd.R_drewN | apply Kd.R_drew)); exact Kd.R_mono (Kd.R_far (p := ⟨Ae, 6, none⟩) (Kd.R_types Af.out Ac.out (by decide)) (fun _ hk => hk.2) (.string (((rd_T34 Aa Ab).f6) ++ (⟨#[95]⟩ : ByteArray)))) (fun _ hk => trivial)⟩, ⟨by (with_reducible repeat (first | apply Kd.R_alloc | apply Kd.R_drewN | apply Kd.R_drew)); exact Kd.R_mono (Kd.R_far (p := ⟨Ae, 6, none⟩) (Kd.R_mono Ad.out (fun k_ hk => (⟨hk, hk⟩ : _ ∧ k_ ≠ Ae))) (fun _ hk => hk.2) (.string (((rd_T34 Aa Ab).f6) ++ (⟨#[95]⟩ : ByteArray)))) (fun _ hk => hk.1)⟩, ⟨by (with_reducible repeat (first | refine blk_drewN ?_ _ | refine blk_drew ?_ | refine blk_alloc ?_ _)); refine blk_far ?_ Aq.out _; (with_reducible repeat (first | refine blk_drewN ?_ _ | refine blk_drew ?_ | refine blk_alloc ?_ _)); exact Ag.out⟩, ⟨by (with_reducible repeat (first | refine blk_drewN ?_ _ | refine blk_drew ?_ | refine blk_alloc ?_ _)); refine blk_far ?_ Ar.out _; (with_reducible repeat (first | refine blk_drewN ?_ _ | refine blk_drew ?_ | refine blk_alloc ?_ _)); exact Ah.out⟩, ⟨by (with_reducible repeat (first | refine blk_drewN ?_ _ | refine blk_drew ?_ | refine blk_alloc ?_ _)); refine blk_put (cs := #[.int .i64 ((rd_T34 Aa Ab).f0), .int .i64 ((rd_T34 Aa Ab).f1), .int .i64 ((rd_T34 Aa Ab).f2), .int .i64 ((rd_T34 Aa Ab).f3), .int .i64 ((rd_T34 Aa Ab).f4), .string Ai, .string ((rd_T34 Aa Ab).f6), .string ((rd_T34 Aa Ab).f7), .string ((rd_T34 Aa Ab).f8), .int .i64 ((rd_T34 Aa Ab).f9)]) ?_ 6 _ rfl; (with_reducible repeat (first | refine blk_drewN ?_ _ | refine blk_drew ?_ | refine blk_alloc ?_ _)); exact Ac.out⟩, ⟨by repeat (first | (with_reducible first | exact HB.out | apply below_alloc | apply pw_below_drewN | apply below_drew1 | refine below_set ?_ Am.out | refine below_set ?_ Ap.out | refine below_set ?_ Br.out) | exact HB.out)⟩⟩
               ·
                rw [if_neg c64] at H
                exact absurd H (by simp)
             case rest =>
              clear HC59
              try clear c1
              try clear c2
              try clear p2
              try clear c3
              try clear p3
              try clear q3
              try clear hx3
              try clear c4
              try clear c5
              try clear c6
              try clear p6
              try clear c7
              try clear c12
              try clear c13
              try clear c19
              try clear Kc
              try clear c20
              try clear Kl
              try clear c22
              try clear c26
              try clear c27
              try clear c29
              try clear Cu
              try clear c30
              try clear c31
              try clear c33
              try clear Ke
              try clear c34
              try clear c35
              try clear p35
              try clear q35
              try clear hx35
              try clear c37
              try clear Kf
              try clear c38
              try clear c39
              try clear c41
              try clear c42
              try clear c44
              try clear c46
              try clear Dd
              try clear Km
              try clear c47
              try clear c48
              try clear c50
              try clear c51
              try clear c54
              try clear c55
              try clear c55b0
              try clear c55b1
              try clear c55b2
              try clear c56
              try clear c57
              try clear c60
              try clear c61
              try clear c63
              try clear Hj
              try clear c63b1
              try clear c64
              try clear c64b0
              try clear c64b1
              try clear c64b2
              try clear c65
              try clear c66
              try clear Dg
              try clear Dh
              try clear Dk
              try clear Dl
              try clear Dm
              try clear Dn
              try clear Do
              try clear Dp
              try clear Dq
              try clear Dr
              try clear Ds
              try clear Dt
              try clear Ee
              try clear Ef
              try clear Eg
              try clear Eh
              try clear Ei
              try clear Ej
              try clear Ek
              try clear El
              try clear Em
              try clear En
              try clear Ey
              try clear Ez
              try clear Fa
              try clear Fb
              try clear Fc
              try clear Fd
              try clear Fe
              try clear Ff
              try clear Fg
              try clear Fh
              try clear Fs
              try clear Ft
              try clear Fu
              try clear Fv
              try clear Fw
              try clear Fx
              try clear Fy
              try clear Fz
              try clear Ga
              try clear Gb
              try clear Gm
              try clear Gn
              try clear Gp
              try clear Gq
              try clear Gr
              try clear Gs
              try clear Gt
              try clear Gu
              try clear Gv
              try clear Gw
              try clear Hm
              try clear Hn
              try clear Ho
              try clear Hp
              try clear Hq
              try clear Hr
              try clear Hs
              try clear Ht
              try clear Hu
              try clear Hv
              try clear Jg
              try clear Jh
              try clear Ji
              try clear Jj
              try clear Jk
              try clear Jl
              try clear Jm
              try clear Jn
              try clear Jo
              try clear Jp
              try clear Kn
              try clear Ko
              try clear Kp
              try clear Kq
              try clear Kr
              try clear Ks
              try clear Kt
              try clear Ku
              try clear Kv
              try clear Kw
              try clear hcz62_0
              try clear hcz62_1
              try clear hcz62_2
              try clear hcz62_3
              try clear hcz62_4
              try clear hcz62_5
              try clear hcz62_6
              try clear hcz62_7
              try clear hcz62_8
              try clear hcz62_9
              try clear hcz67_0
              try clear hcz67_1
              try clear hcz67_2
              try clear hcz67_3
              try clear hcz67_4
              try clear hcz67_5
              try clear hcz67_6
              try clear hcz67_7
              try clear hcz67_8
              try clear hcz67_9
              try clear Di
              try clear Dj
              try clear Du
              try clear Dv
              try clear Dw
              try clear Dx
              try clear Dy
              try clear Dz
              try clear Ea
              try clear Eb
              try clear Ec
              try clear Ed
              try clear Eo
              try clear Ep
              try clear Eq
              try clear Er
              try clear Es
              try clear Et
              try clear Eu
              try clear Ev
              try clear Ew
              try clear Ex
              try clear Fi
              try clear Fj
              try clear Fk
              try clear Fl
              try clear Fm
              try clear Fn
              try clear Fo
              try clear Fp
              try clear Fq
              try clear Fr
              try clear Gc
              try clear Gd
              try clear Ge
              try clear Gf
              try clear Gg
              try clear Gh
              try clear Gi
              try clear Gj
              try clear Gk
              try clear Gl
              try clear Gx
              try clear Gy
              try clear Gz
              try clear Ha
              try clear Hb
              try clear Hc
              try clear Hd
              try clear He
              try clear Hf
              try clear Hg
              try clear Hw
              try clear Hx
              try clear Hy
              try clear Hz
              try clear Ja
              try clear Jb
              try clear Jc
              try clear Jd
              try clear Je
              try clear Jf
              try clear Jq
              try clear Jr
              try clear Js
              try clear Jt
              try clear Ju
              try clear Jv
              try clear Jw
              try clear Jx
              try clear Jy
              try clear Jz
              try clear Kx
              try clear Ky
              try clear Kz
              try clear La
              try clear Lb
              try clear Lc
              try clear Ld
              try clear Le
              try clear Lf
              try clear Lg
              try clear hfz62_0
              try clear hfz62_1
              try clear hfz62_2
              try clear hfz62_3
              try clear hfz62_4
              try clear hfz62_5
              try clear hfz62_6
              try clear hfz62_7
              try clear hfz62_8
              try clear hfz62_9
              try clear hfz67_0
              try clear hfz67_1
              try clear hfz67_2
              try clear hfz67_3
              try clear hfz67_4
              try clear hfz67_5
              try clear hfz67_6
              try clear hfz67_7
              try clear hfz67_8
              try clear hfz67_9
              try clear hx356_0
              try clear hx356_1
              try clear hx356_2
              try clear hx356_3
              try clear hx356_4
              try clear hx356_5
              try clear hx356_6
              try clear hx356_7
              try clear hx356_8
              try clear hx356_9
              try clear p2
              try clear p3
              try clear p35
              try clear Ki
              try clear p6
              try clear q3
              try clear q35
              try clear q356
              obtain ⟨kq, Aj, HA, HJ58, Af, Ad, Ag, Ah, Ac, HB⟩ := hcut
              cases kq with
              | zero => exact absurd HA.out (by simp [trammellaw6_ScopeNames.j4])
              | succ kj58 =>
               have H := HA.out
               clear HA
               simp only [trammellaw6_ScopeNames.j4] at H
               by_cases c68 : ((rd_T34 Aa Ab).f7).toList = ([] : List UInt8)
               ·
                rw [if_pos c68] at H
                have c68b0 : (((rd_T34 Aa Ab).f7).toList == ([] : List UInt8)) = true := beq_iff_eq.mpr c68
                have c68b1 : (((rd_T34 Aa Ab).f7).toList != ([] : List UInt8)) = false := bne_eq_false_iff_eq.mpr c68
                have Lm : (((rd_T34 Aa Ab).f7).toList.isEmpty) = true := by simpa using c68
                try rw [Lm]
                clear c68
                by_cases c69 : ((rd_T34 Aa Ab).f8).toList = ([] : List UInt8)
                ·
                 rw [if_pos c69] at H
                 have c69b0 : (((rd_T34 Aa Ab).f8).toList == ([] : List UInt8)) = true := beq_iff_eq.mpr c69
                 have c69b1 : (((rd_T34 Aa Ab).f8).toList != ([] : List UInt8)) = false := bne_eq_false_iff_eq.mpr c69
                 have Ln : (((rd_T34 Aa Ab).f8).toList.isEmpty) = true := by simpa using c69
                 try rw [Ln]
                 clear c69
                 by_cases c70 : 0 ≤ Ab
                 ·
                  rw [if_pos c70] at H
                  have c70b0 : decide (0 ≤ Ab) = true := decide_eq_true c70
                  clear c70
                  by_cases c71 : Ab < (Aa.length : Int)
                  ·
                   rw [if_pos c71] at H
                   have c71b0 : decide (Ab < (Aa.length : Int)) = true := decide_eq_true c71
                   clear c71
                   obtain ⟨y358, hy358⟩ : ∃ y_ : List (S34), y_ = (Aa.set (Ab : Int).toNat (⟨((rd_T34 Aa Ab).f0), ((rd_T34 Aa Ab).f1), ((rd_T34 Aa Ab).f2), ((rd_T34 Aa Ab).f3), ((rd_T34 Aa Ab).f4), Ai, Aj, ((rd_T34 Aa Ab).f7), ((rd_T34 Aa Ab).f8), ((rd_T34 Aa Ab).f9)⟩ : S34)) := ⟨_, rfl⟩
                   replace H : (trammellaw6_ScopeNames.l0 kj58 (wrap64 (Ab + 1)) l0_0 l0_1 Ao y358) = some r := by first | (rw [hy358]; with_reducible exact H) | (have H2_ := (Option.bind_some _ _).symm.trans H; rw [hy358]; with_reducible exact H2_) | (have H2_ := (Option.bind_some _ _).symm.trans H; with_reducible exact H2_) | with_reducible exact H | (rw [hy358]; exact H) | exact H
                   have Ny358 := Aside0.mk hy358
                   clear hy358
                   have H' := Aside0.mk H
                   clear H
                   have hnb73 := Ay.out
                   have hnc73 := Aq.out
                   have hnb74 := Az.out
                   have hnc74 := Ar.out
                   have hcz75_0 : wc.cell? ⟨Ae, 0, none⟩ = some (.int .i64 ((rd_T34 Aa Ab).f0)) := (blk_cell Ac.out 0).trans rfl
                   have hcz75_1 : wc.cell? ⟨Ae, 1, none⟩ = some (.int .i64 ((rd_T34 Aa Ab).f1)) := (blk_cell Ac.out 1).trans rfl
                   have hcz75_2 : wc.cell? ⟨Ae, 2, none⟩ = some (.int .i64 ((rd_T34 Aa Ab).f2)) := (blk_cell Ac.out 2).trans rfl
                   have hcz75_3 : wc.cell? ⟨Ae, 3, none⟩ = some (.int .i64 ((rd_T34 Aa Ab).f3)) := (blk_cell Ac.out 3).trans rfl
                   have hcz75_4 : wc.cell? ⟨Ae, 4, none⟩ = some (.int .i64 ((rd_T34 Aa Ab).f4)) := (blk_cell Ac.out 4).trans rfl
                   have hcz75_5 : wc.cell? ⟨Ae, 5, none⟩ = some (.string Ai) := (blk_cell Ac.out 5).trans rfl
                   have hcz75_6 : wc.cell? ⟨Ae, 6, none⟩ = some (.string Aj) := (blk_cell Ac.out 6).trans rfl
                   have hcz75_7 : wc.cell? ⟨Ae, 7, none⟩ = some (.string ((rd_T34 Aa Ab).f7)) := (blk_cell Ac.out 7).trans rfl
                   have hcz75_8 : wc.cell? ⟨Ae, 8, none⟩ = some (.string ((rd_T34 Aa Ab).f8)) := (blk_cell Ac.out 8).trans rfl
                   have hcz75_9 : wc.cell? ⟨Ae, 9, none⟩ = some (.int .i64 ((rd_T34 Aa Ab).f9)) := (blk_cell Ac.out 9).trans rfl
                   have hfz75_0 := blk_frozen Ac.out 0
                   have hfz75_1 := blk_frozen Ac.out 1
                   have hfz75_2 := blk_frozen Ac.out 2
                   have hfz75_3 := blk_frozen Ac.out 3
                   have hfz75_4 := blk_frozen Ac.out 4
                   have hfz75_5 := blk_frozen Ac.out 5
                   have hfz75_6 := blk_frozen Ac.out 6
                   have hfz75_7 := blk_frozen Ac.out 7
                   have hfz75_8 := blk_frozen Ac.out 8
                   have hfz75_9 := blk_frozen Ac.out 9
                   have hnb76 := Ax.out
                   have hnc76 := At.out
                   have hcz77_0 : wc.cell? ⟨Ak, 0, none⟩ = some (.slice Aw Ao.length Av) := (blk_cell Ah.out 0).trans rfl
                   have hcz77_1 : wc.cell? ⟨Ak, 1, none⟩ = some (.slice (some Bl) Aa.length Bc) := (blk_cell Ah.out 1).trans rfl
                   have hfz77_0 := blk_frozen Ah.out 0
                   have hfz77_1 := blk_frozen Ah.out 1
                   have p72 : 0 ≤ (Ab : Int) := of_decide_eq_true (by first | (with_reducible assumption) | assumption)
                   have q72 : (Ab : Int) < ((Aa.length : Int) : Int) := of_decide_eq_true (by first | (with_reducible assumption) | assumption)
                   obtain ⟨go72, co72, eo72, gb72, gl72, cl72, HG72⟩ := Kd.R_form Ad.out (by omega)
                   (first | cases eo72 | (injection eo72 with ea_ en_ ec_; (first | subst ea_ | (injection ea_ with ea_; subst ea_)); subst ec_; clear en_))
                   have GB72 := Aside0.mk gb72
                   have GG72 := Aside0.mk HG72
                   clear gb72 gl72 HG72
                   (first | simp only [add_plain] at hx356_0 | skip)
                   (first | simp only [add_plain] at hx356_1 | skip)
                   (first | simp only [add_plain] at hx356_2 | skip)
                   (first | simp only [add_plain] at hx356_3 | skip)
                   (first | simp only [add_plain] at hx356_4 | skip)
                   (first | simp only [add_plain] at hx356_5 | skip)
                   (first | simp only [add_plain] at hx356_6 | skip)
                   (first | simp only [add_plain] at hx356_7 | skip)
                   (first | simp only [add_plain] at hx356_8 | skip)
                   (first | simp only [add_plain] at hx356_9 | skip)
                   obtain ⟨ce72, hcl72, hM72, hcc72, hfr72⟩ := Kd.R_elem Ad.out z34 (Ab : Int) p72 q72
                   obtain rfl := k34_openM hM72
                   have hx72_0 : wc.cell? ⟨go72, (Ab : Int).toNat * 10, none⟩ = some (.int .i64 ((rd_T34 Aa Ab).f0)) := hcc72 0 _ rfl
                   have hx72_1 : wc.cell? ⟨go72, (Ab : Int).toNat * 10 + 1, none⟩ = some (.int .i64 ((rd_T34 Aa Ab).f1)) := hcc72 1 _ rfl
                   have hx72_2 : wc.cell? ⟨go72, (Ab : Int).toNat * 10 + 2, none⟩ = some (.int .i64 ((rd_T34 Aa Ab).f2)) := hcc72 2 _ rfl
                   have hx72_3 : wc.cell? ⟨go72, (Ab : Int).toNat * 10 + 3, none⟩ = some (.int .i64 ((rd_T34 Aa Ab).f3)) := hcc72 3 _ rfl
                   have hx72_4 : wc.cell? ⟨go72, (Ab : Int).toNat * 10 + 4, none⟩ = some (.int .i64 ((rd_T34 Aa Ab).f4)) := hcc72 4 _ rfl
                   have hx72_5 : wc.cell? ⟨go72, (Ab : Int).toNat * 10 + 5, none⟩ = some (.string ((rd_T34 Aa Ab).f5)) := hcc72 5 _ rfl
                   have hx72_6 : wc.cell? ⟨go72, (Ab : Int).toNat * 10 + 6, none⟩ = some (.string ((rd_T34 Aa Ab).f6)) := hcc72 6 _ rfl
                   have hx72_7 : wc.cell? ⟨go72, (Ab : Int).toNat * 10 + 7, none⟩ = some (.string ((rd_T34 Aa Ab).f7)) := hcc72 7 _ rfl
                   have hx72_8 : wc.cell? ⟨go72, (Ab : Int).toNat * 10 + 8, none⟩ = some (.string ((rd_T34 Aa Ab).f8)) := hcc72 8 _ rfl
                   have hx72_9 : wc.cell? ⟨go72, (Ab : Int).toNat * 10 + 9, none⟩ = some (.int .i64 ((rd_T34 Aa Ab).f9)) := hcc72 9 _ rfl
                   have hf72_0 : wc.frozen? ⟨go72, (Ab : Int).toNat * 10, none⟩ = false := hfr72 0
                   have hf72_1 : wc.frozen? ⟨go72, (Ab : Int).toNat * 10 + 1, none⟩ = false := hfr72 1
                   have hf72_2 : wc.frozen? ⟨go72, (Ab : Int).toNat * 10 + 2, none⟩ = false := hfr72 2
                   have hf72_3 : wc.frozen? ⟨go72, (Ab : Int).toNat * 10 + 3, none⟩ = false := hfr72 3
                   have hf72_4 : wc.frozen? ⟨go72, (Ab : Int).toNat * 10 + 4, none⟩ = false := hfr72 4
                   have hf72_5 : wc.frozen? ⟨go72, (Ab : Int).toNat * 10 + 5, none⟩ = false := hfr72 5
                   have hf72_6 : wc.frozen? ⟨go72, (Ab : Int).toNat * 10 + 6, none⟩ = false := hfr72 6
                   have hf72_7 : wc.frozen? ⟨go72, (Ab : Int).toNat * 10 + 7, none⟩ = false := hfr72 7
                   have hf72_8 : wc.frozen? ⟨go72, (Ab : Int).toNat * 10 + 8, none⟩ = false := hfr72 8
                   have hf72_9 : wc.frozen? ⟨go72, (Ab : Int).toNat * 10 + 9, none⟩ = false := hfr72 9
                   clear hcl72 hcc72 hfr72 hM72
                   replace p72 := eq_true p72
                   replace q72 := eq_true q72
                   have HX78 := Aside0.mk (show Kd.R k34 34 wc w.heap.size (fun k_ => k_ ≠ Ae) (.slice (some ⟨go72, 0, none⟩) Aa.length Bc) Aa from (by (with_reducible repeat (first | apply Kd.R_alloc | apply Kd.R_drewN | apply Kd.R_drew)); exact Ad.out))
                   obtain ⟨ce78, hcl78, hM78, hcc78, hfr78⟩ := Kd.R_elem HX78.out z34 (Ab : Int) (of_decide_eq_true (by first | (with_reducible assumption) | assumption)) (by have h_ : (Ab : Int) < ((Aa.length : Int) : Int) := of_decide_eq_true (by first | (with_reducible assumption) | assumption); first | exact h_ | (have e_ := (Kd.R_reads' Ad.out).1; omega) | simpa using h_)
                   obtain rfl := k34_openM hM78
                   have HP78 := Kd.R_seg HX78.out (Ab : Int) (of_decide_eq_true (by first | (with_reducible assumption) | assumption)) (by have h_ : (Ab : Int) < ((Aa.length : Int) : Int) := of_decide_eq_true (by first | (with_reducible assumption) | assumption); first | exact h_ | (have e_ := (Kd.R_reads' Ad.out).1; omega) | simpa using h_) (seg := [.int .i64 ((rd_T34 Aa Ab).f0), .int .i64 ((rd_T34 Aa Ab).f1), .int .i64 ((rd_T34 Aa Ab).f2), .int .i64 ((rd_T34 Aa Ab).f3), .int .i64 ((rd_T34 Aa Ab).f4), .string Ai, .string Aj, .string ((rd_T34 Aa Ab).f7), .string ((rd_T34 Aa Ab).f8), .int .i64 ((rd_T34 Aa Ab).f9)]) (j := 0) hcl78 hcc78 (show 10 ≤ 10 from by decide) (x' := (⟨((rd_T34 Aa Ab).f0), ((rd_T34 Aa Ab).f1), ((rd_T34 Aa Ab).f2), ((rd_T34 Aa Ab).f3), ((rd_T34 Aa Ab).f4), Ai, Aj, ((rd_T34 Aa Ab).f7), ((rd_T34 Aa Ab).f8), ((rd_T34 Aa Ab).f9)⟩ : S34)) (k34_mkM _ _ _ (⟨((rd_T34 Aa Ab).f0), ((rd_T34 Aa Ab).f1), ((rd_T34 Aa Ab).f2), ((rd_T34 Aa Ab).f3), ((rd_T34 Aa Ab).f4), Ai, Aj, ((rd_T34 Aa Ab).f7), ((rd_T34 Aa Ab).f8), ((rd_T34 Aa Ab).f9)⟩ : S34) ) (fun _ hk => hk)
                   have hx78_0 := hcc78 0 _ rfl
                   (try simp only [show (k34).sz = 10 from rfl, Nat.mul_one, Nat.add_zero] at hx78_0)
                   have hf78_0 := hfr78 0
                   (try simp only [show (k34).sz = 10 from rfl, Nat.mul_one, Nat.add_zero] at hf78_0)
                   have hx78_1 := hcc78 1 _ rfl
                   (try simp only [show (k34).sz = 10 from rfl, Nat.mul_one, Nat.add_zero] at hx78_1)
                   have hf78_1 := hfr78 1
                   (try simp only [show (k34).sz = 10 from rfl, Nat.mul_one, Nat.add_zero] at hf78_1)
                   have hx78_2 := hcc78 2 _ rfl
                   (try simp only [show (k34).sz = 10 from rfl, Nat.mul_one, Nat.add_zero] at hx78_2)
                   have hf78_2 := hfr78 2
                   (try simp only [show (k34).sz = 10 from rfl, Nat.mul_one, Nat.add_zero] at hf78_2)
                   have hx78_3 := hcc78 3 _ rfl
                   (try simp only [show (k34).sz = 10 from rfl, Nat.mul_one, Nat.add_zero] at hx78_3)
                   have hf78_3 := hfr78 3
                   (try simp only [show (k34).sz = 10 from rfl, Nat.mul_one, Nat.add_zero] at hf78_3)
                   have hx78_4 := hcc78 4 _ rfl
                   (try simp only [show (k34).sz = 10 from rfl, Nat.mul_one, Nat.add_zero] at hx78_4)
                   have hf78_4 := hfr78 4
                   (try simp only [show (k34).sz = 10 from rfl, Nat.mul_one, Nat.add_zero] at hf78_4)
                   have hx78_5 := hcc78 5 _ rfl
                   (try simp only [show (k34).sz = 10 from rfl, Nat.mul_one, Nat.add_zero] at hx78_5)
                   have hf78_5 := hfr78 5
                   (try simp only [show (k34).sz = 10 from rfl, Nat.mul_one, Nat.add_zero] at hf78_5)
                   have hx78_6 := hcc78 6 _ rfl
                   (try simp only [show (k34).sz = 10 from rfl, Nat.mul_one, Nat.add_zero] at hx78_6)
                   have hf78_6 := hfr78 6
                   (try simp only [show (k34).sz = 10 from rfl, Nat.mul_one, Nat.add_zero] at hf78_6)
                   have hx78_7 := hcc78 7 _ rfl
                   (try simp only [show (k34).sz = 10 from rfl, Nat.mul_one, Nat.add_zero] at hx78_7)
                   have hf78_7 := hfr78 7
                   (try simp only [show (k34).sz = 10 from rfl, Nat.mul_one, Nat.add_zero] at hf78_7)
                   have hx78_8 := hcc78 8 _ rfl
                   (try simp only [show (k34).sz = 10 from rfl, Nat.mul_one, Nat.add_zero] at hx78_8)
                   have hf78_8 := hfr78 8
                   (try simp only [show (k34).sz = 10 from rfl, Nat.mul_one, Nat.add_zero] at hf78_8)
                   have hx78_9 := hcc78 9 _ rfl
                   (try simp only [show (k34).sz = 10 from rfl, Nat.mul_one, Nat.add_zero] at hx78_9)
                   have hf78_9 := hfr78 9
                   (try simp only [show (k34).sz = 10 from rfl, Nat.mul_one, Nat.add_zero] at hf78_9)
                   clear hcl78 hcc78 hfr78 hM78
                   go_wp2_with (first | ((with_reducible refine gate_store (t := 34) (p := 96) rfl ?_); refine store_event (t := 34) (p := 96) (v := ?vo_w79) (w1 := ((((((((((wc.setCell ⟨go72, (Ab : Int).toNat * 10, none⟩ (.int .i64 ((rd_T34 Aa Ab).f0))).setCell ⟨go72, (Ab : Int).toNat * 10 + 1, none⟩ (.int .i64 ((rd_T34 Aa Ab).f1))).setCell ⟨go72, (Ab : Int).toNat * 10 + 2, none⟩ (.int .i64 ((rd_T34 Aa Ab).f2))).setCell ⟨go72, (Ab : Int).toNat * 10 + 3, none⟩ (.int .i64 ((rd_T34 Aa Ab).f3))).setCell ⟨go72, (Ab : Int).toNat * 10 + 4, none⟩ (.int .i64 ((rd_T34 Aa Ab).f4))).setCell ⟨go72, (Ab : Int).toNat * 10 + 5, none⟩ (.string Ai)).setCell ⟨go72, (Ab : Int).toNat * 10 + 6, none⟩ (.string Aj)).setCell ⟨go72, (Ab : Int).toNat * 10 + 7, none⟩ (.string ((rd_T34 Aa Ab).f7))).setCell ⟨go72, (Ab : Int).toNat * 10 + 8, none⟩ (.string ((rd_T34 Aa Ab).f8))).setCell ⟨go72, (Ab : Int).toNat * 10 + 9, none⟩ (.int .i64 ((rd_T34 Aa Ab).f9)))) ?hg ?ho ?hn ?hr ?_; (case ho => rfl); (case hg => rfl); (case hn => rfl); (case hr => first | (go_simp; done) | (go_simp; rfl)); intro w79 hw; have hg : wc.grownBy w79 (some go72) := (by rw [hw]; exact HP78.2); have hp_ : Kd.R k34 34 w79 w.heap.size (fun k_ => k_ ≠ Ae) (.slice (some ⟨go72, 0, none⟩) Aa.length Bc) y358 := (by rw [hw, Ny358.out]; exact HP78.1); clear HP78; have Ba := Aside0.mk (Kd.R_over' (v := (.slice (some ⟨go72, 0, none⟩) Aa.length Bc)) (by (with_reducible repeat (first | apply Kd.R_alloc | apply Kd.R_drewN | apply Kd.R_drew)); exact Af.out) (Kd.R_typed Ad.out) (by decide) hg); have Bb := Aside0.mk (hp_); have Bg := Aside0.mk (blk_grown (g := Al) (o := .cells #[.slice A0_0 l0_0.length c0_0, .slice A0_1 l0_1.length c0_1] 25 (0, 0)) (by (with_reducible repeat (first | refine blk_drewN ?_ _ | refine blk_drew ?_ | refine blk_alloc ?_ _)); exact Ag.out) hg (Kd.R_ne Ad.out Ag.out (by decide))); have Bi := Aside0.mk (blk_grown (g := Ak) (o := .cells #[.slice Aw Ao.length Av, .slice (some ⟨go72, 0, none⟩) Aa.length Bc] 25 (0, 0)) (by (with_reducible repeat (first | refine blk_drewN ?_ _ | refine blk_drew ?_ | refine blk_alloc ?_ _)); exact Ah.out) hg (Kd.R_ne Ad.out Ah.out (by decide))); have Bk := Aside0.mk (blk_grown (g := Ae) (o := .cells #[.int .i64 ((rd_T34 Aa Ab).f0), .int .i64 ((rd_T34 Aa Ab).f1), .int .i64 ((rd_T34 Aa Ab).f2), .int .i64 ((rd_T34 Aa Ab).f3), .int .i64 ((rd_T34 Aa Ab).f4), .string Ai, .string Aj, .string ((rd_T34 Aa Ab).f7), .string ((rd_T34 Aa Ab).f8), .int .i64 ((rd_T34 Aa Ab).f9)] 34 (0, 0)) (by (with_reducible repeat (first | refine blk_drewN ?_ _ | refine blk_drew ?_ | refine blk_alloc ?_ _)); exact Ac.out) hg (Kd.R_away Ad.out (fun _ hk => hk))); have Bn := Aside0.mk ((by rw [hw]; exact below_set (below_set (below_set (below_set (below_set (below_set (below_set (below_set (below_set (below_set (HB.out) GB72.out) GB72.out) GB72.out) GB72.out) GB72.out) GB72.out) GB72.out) GB72.out) GB72.out) GB72.out : Below w.heap.size w w79)); clear Af Ad Ag Ah Ac HB; have Af := Ba; have Ad := Bb; have Ag := Bg; have Ah := Bi; have Ac := Bk; have HB := Bn; clear Ba Bb Bg Bi Bk Bn; clear hg hw hp_))
                   go_roundg kj58
                   case measure => have := HK1.out; have := HJ20.out; have := HJ44.out; have := HJ52.out; have := HJ58.out; omega
                   case rel => exact ⟨(wrap64 (Ab + 1)), (y358), (.slice (some ⟨go72, 0, none⟩) Aa.length Bc), (by first | rfl | (simp; done) | (simp [*]; done)), H', ⟨by have := HK1.out; have := HJ20.out; have := HJ44.out; have := HJ52.out; have := HJ58.out; omega⟩, ⟨by (with_reducible repeat (first | apply Kd.R_alloc | apply Kd.R_drewN | apply Kd.R_drew)); exact Af.out⟩, ⟨by (with_reducible repeat (first | apply Kd.R_alloc | apply Kd.R_drewN | apply Kd.R_drew)); exact Kd.R_mono Ad.out (fun _ hk => trivial)⟩, ⟨by (with_reducible repeat (first | refine blk_drewN ?_ _ | refine blk_drew ?_ | refine blk_alloc ?_ _)); exact Ag.out⟩, ⟨by (with_reducible repeat (first | refine blk_drewN ?_ _ | refine blk_drew ?_ | refine blk_alloc ?_ _)); exact Ah.out⟩, ⟨by repeat (first | (with_reducible first | exact HB.out | apply below_alloc | apply pw_below_drewN | apply below_drew1 | refine below_set ?_ Am.out | refine below_set ?_ Ap.out | refine below_set ?_ Br.out) | exact HB.out)⟩⟩
                  ·
                   rw [if_neg c71] at H
                   exact absurd H (by simp)
                 ·
                  rw [if_neg c70] at H
                  exact absurd H (by simp)
                ·
                 rw [if_neg c69] at H
                 have c69b0 : (((rd_T34 Aa Ab).f8).toList == ([] : List UInt8)) = false := beq_eq_false_iff_ne.mpr c69
                 have c69b1 : (((rd_T34 Aa Ab).f8).toList != ([] : List UInt8)) = true := bne_iff_ne.mpr c69
                 have Ln : (((rd_T34 Aa Ab).f8).toList.isEmpty) = false := by simpa using c69
                 try rw [Ln]
                 by_cases c80 : ((rd_T34 Aa Ab).f8).size + 1 ≤ 9223372036854775807
                 ·
                  rw [if_pos c80] at H
                  have c80b0 := eq_true c80
                  have c80b1 : decide (((rd_T34 Aa Ab).f8).size + 1 ≤ 9223372036854775807) = true := decide_eq_true c80
                  try have c80b2 : (9223372036854775807 < ((rd_T34 Aa Ab).f8).size + 1) = False := eq_false (Nat.not_lt.2 c80)
                  by_cases c81 : 0 ≤ Ab
                  ·
                   rw [if_pos c81] at H
                   have c81b0 : decide (0 ≤ Ab) = true := decide_eq_true c81
                   clear c81
                   by_cases c82 : Ab < (Aa.length : Int)
                   ·
                    rw [if_pos c82] at H
                    have c82b0 : decide (Ab < (Aa.length : Int)) = true := decide_eq_true c82
                    clear c82
                    obtain ⟨y359, hy359⟩ : ∃ y_ : List (S34), y_ = (Aa.set (Ab : Int).toNat (⟨((rd_T34 Aa Ab).f0), ((rd_T34 Aa Ab).f1), ((rd_T34 Aa Ab).f2), ((rd_T34 Aa Ab).f3), ((rd_T34 Aa Ab).f4), Ai, Aj, ((rd_T34 Aa Ab).f7), ((rd_T34 Aa Ab).f8) ++ (⟨#[95]⟩ : ByteArray), ((rd_T34 Aa Ab).f9)⟩ : S34)) := ⟨_, rfl⟩
                    replace H : (trammellaw6_ScopeNames.l0 kj58 (wrap64 (Ab + 1)) l0_0 l0_1 Ao y359) = some r := by first | (rw [hy359]; with_reducible exact H) | (have H2_ := (Option.bind_some _ _).symm.trans H; rw [hy359]; with_reducible exact H2_) | (have H2_ := (Option.bind_some _ _).symm.trans H; with_reducible exact H2_) | with_reducible exact H | (rw [hy359]; exact H) | exact H
                    have Ny359 := Aside0.mk hy359
                    clear hy359
                    have H' := Aside0.mk H
                    clear H
                    have hnb84 := Ay.out
                    have hnc84 := Aq.out
                    have hnb85 := Az.out
                    have hnc85 := Ar.out
                    have hcz86_0 : wc.cell? ⟨Ae, 0, none⟩ = some (.int .i64 ((rd_T34 Aa Ab).f0)) := (blk_cell Ac.out 0).trans rfl
                    have hcz86_1 : wc.cell? ⟨Ae, 1, none⟩ = some (.int .i64 ((rd_T34 Aa Ab).f1)) := (blk_cell Ac.out 1).trans rfl
                    have hcz86_2 : wc.cell? ⟨Ae, 2, none⟩ = some (.int .i64 ((rd_T34 Aa Ab).f2)) := (blk_cell Ac.out 2).trans rfl
                    have hcz86_3 : wc.cell? ⟨Ae, 3, none⟩ = some (.int .i64 ((rd_T34 Aa Ab).f3)) := (blk_cell Ac.out 3).trans rfl
                    have hcz86_4 : wc.cell? ⟨Ae, 4, none⟩ = some (.int .i64 ((rd_T34 Aa Ab).f4)) := (blk_cell Ac.out 4).trans rfl
                    have hcz86_5 : wc.cell? ⟨Ae, 5, none⟩ = some (.string Ai) := (blk_cell Ac.out 5).trans rfl
                    have hcz86_6 : wc.cell? ⟨Ae, 6, none⟩ = some (.string Aj) := (blk_cell Ac.out 6).trans rfl
                    have hcz86_7 : wc.cell? ⟨Ae, 7, none⟩ = some (.string ((rd_T34 Aa Ab).f7)) := (blk_cell Ac.out 7).trans rfl
                    have hcz86_8 : wc.cell? ⟨Ae, 8, none⟩ = some (.string ((rd_T34 Aa Ab).f8)) := (blk_cell Ac.out 8).trans rfl
                    have hcz86_9 : wc.cell? ⟨Ae, 9, none⟩ = some (.int .i64 ((rd_T34 Aa Ab).f9)) := (blk_cell Ac.out 9).trans rfl
                    have hfz86_0 := blk_frozen Ac.out 0
                    have hfz86_1 := blk_frozen Ac.out 1
                    have hfz86_2 := blk_frozen Ac.out 2
                    have hfz86_3 := blk_frozen Ac.out 3
                    have hfz86_4 := blk_frozen Ac.out 4
                    have hfz86_5 := blk_frozen Ac.out 5
                    have hfz86_6 := blk_frozen Ac.out 6
                    have hfz86_7 := blk_frozen Ac.out 7
                    have hfz86_8 := blk_frozen Ac.out 8
                    have hfz86_9 := blk_frozen Ac.out 9
                    go_wp2_with (first | ((with_reducible refine gate_store (t := 9) (p := 91) rfl ?_); refine store_event (t := 9) (p := 91) (v := ?vo_w87) (w1 := (wc.setCell ⟨Ae, 8, none⟩ (.string (((rd_T34 Aa Ab).f8) ++ (⟨#[95]⟩ : ByteArray))))) ?hg ?ho ?hn ?hr ?_; (case ho => rfl); (case hg => rfl); (case hn => rfl); (case hr => first | (go_simp; done) | (go_simp; rfl)); intro w87 hw; have Ba : Aside0 (Kd.R k45 45 w87 w.heap.size (fun _ => True) (.slice Aw Ao.length Av) Ao) := ⟨(by rw [hw]; exact (by (with_reducible repeat (first | apply Kd.R_alloc | apply Kd.R_drewN | apply Kd.R_drew)); exact Kd.R_mono (Kd.R_far (p := ⟨Ae, 8, none⟩) (Kd.R_types Af.out Ac.out (by decide)) (fun _ hk => hk.2) (.string (((rd_T34 Aa Ab).f8) ++ (⟨#[95]⟩ : ByteArray)))) (fun _ hk => trivial)))⟩; have Bb : Aside0 (Kd.R k34 34 w87 w.heap.size (fun k_ => k_ ≠ Ae) (.slice (some Bl) Aa.length Bc) Aa) := ⟨(by rw [hw]; exact (by (with_reducible repeat (first | apply Kd.R_alloc | apply Kd.R_drewN | apply Kd.R_drew)); exact Kd.R_mono (Kd.R_far (p := ⟨Ae, 8, none⟩) (Kd.R_mono Ad.out (fun k_ hk => (⟨hk, hk⟩ : _ ∧ k_ ≠ Ae))) (fun _ hk => hk.2) (.string (((rd_T34 Aa Ab).f8) ++ (⟨#[95]⟩ : ByteArray)))) (fun _ hk => hk.1)))⟩; have Bg : Aside0 (w87.heap[Al]? = some (.cells #[.slice A0_0 l0_0.length c0_0, .slice A0_1 l0_1.length c0_1] 25 (0, 0))) := ⟨(by rw [hw]; exact (by (with_reducible repeat (first | refine blk_drewN ?_ _ | refine blk_drew ?_ | refine blk_alloc ?_ _)); refine blk_far ?_ Aq.out _; (with_reducible repeat (first | refine blk_drewN ?_ _ | refine blk_drew ?_ | refine blk_alloc ?_ _)); exact Ag.out))⟩; have Bi : Aside0 (w87.heap[Ak]? = some (.cells #[.slice Aw Ao.length Av, .slice (some Bl) Aa.length Bc] 25 (0, 0))) := ⟨(by rw [hw]; exact (by (with_reducible repeat (first | refine blk_drewN ?_ _ | refine blk_drew ?_ | refine blk_alloc ?_ _)); refine blk_far ?_ Ar.out _; (with_reducible repeat (first | refine blk_drewN ?_ _ | refine blk_drew ?_ | refine blk_alloc ?_ _)); exact Ah.out))⟩; have Bk : Aside0 (w87.heap[Ae]? = some (.cells #[.int .i64 ((rd_T34 Aa Ab).f0), .int .i64 ((rd_T34 Aa Ab).f1), .int .i64 ((rd_T34 Aa Ab).f2), .int .i64 ((rd_T34 Aa Ab).f3), .int .i64 ((rd_T34 Aa Ab).f4), .string Ai, .string Aj, .string ((rd_T34 Aa Ab).f7), .string (((rd_T34 Aa Ab).f8) ++ (⟨#[95]⟩ : ByteArray)), .int .i64 ((rd_T34 Aa Ab).f9)] 34 (0, 0))) := ⟨(by rw [hw]; exact (by (with_reducible repeat (first | refine blk_drewN ?_ _ | refine blk_drew ?_ | refine blk_alloc ?_ _)); refine blk_put (cs := #[.int .i64 ((rd_T34 Aa Ab).f0), .int .i64 ((rd_T34 Aa Ab).f1), .int .i64 ((rd_T34 Aa Ab).f2), .int .i64 ((rd_T34 Aa Ab).f3), .int .i64 ((rd_T34 Aa Ab).f4), .string Ai, .string Aj, .string ((rd_T34 Aa Ab).f7), .string ((rd_T34 Aa Ab).f8), .int .i64 ((rd_T34 Aa Ab).f9)]) ?_ 8 _ rfl; (with_reducible repeat (first | refine blk_drewN ?_ _ | refine blk_drew ?_ | refine blk_alloc ?_ _)); exact Ac.out))⟩; have Bn : Aside0 (Below w.heap.size w w87) := ⟨(by rw [hw]; exact (by repeat (first | (with_reducible first | exact HB.out | apply below_alloc | apply pw_below_drewN | apply below_drew1 | refine below_set ?_ Am.out | refine below_set ?_ Ap.out | refine below_set ?_ Br.out) | exact HB.out)))⟩; clear hw Af Ad Ag Ah Ac HB; have Af := Ba; have Ad := Bb; have Ag := Bg; have Ah := Bi; have Ac := Bk; have HB := Bn; clear Ba Bb Bg Bi Bk Bn; have hnb88 := Ax.out; have hnc88 := At.out; have hcz89_0 : w87.cell? ⟨Ak, 0, none⟩ = some (.slice Aw Ao.length Av) := (blk_cell Ah.out 0).trans rfl; have hcz89_1 : w87.cell? ⟨Ak, 1, none⟩ = some (.slice (some Bl) Aa.length Bc) := (blk_cell Ah.out 1).trans rfl; have hfz89_0 := blk_frozen Ah.out 0; have hfz89_1 := blk_frozen Ah.out 1; have hcz90_0 : w87.cell? ⟨Ae, 0, none⟩ = some (.int .i64 ((rd_T34 Aa Ab).f0)) := (blk_cell Ac.out 0).trans rfl; have hcz90_1 : w87.cell? ⟨Ae, 1, none⟩ = some (.int .i64 ((rd_T34 Aa Ab).f1)) := (blk_cell Ac.out 1).trans rfl; have hcz90_2 : w87.cell? ⟨Ae, 2, none⟩ = some (.int .i64 ((rd_T34 Aa Ab).f2)) := (blk_cell Ac.out 2).trans rfl; have hcz90_3 : w87.cell? ⟨Ae, 3, none⟩ = some (.int .i64 ((rd_T34 Aa Ab).f3)) := (blk_cell Ac.out 3).trans rfl; have hcz90_4 : w87.cell? ⟨Ae, 4, none⟩ = some (.int .i64 ((rd_T34 Aa Ab).f4)) := (blk_cell Ac.out 4).trans rfl; have hcz90_5 : w87.cell? ⟨Ae, 5, none⟩ = some (.string Ai) := (blk_cell Ac.out 5).trans rfl; have hcz90_6 : w87.cell? ⟨Ae, 6, none⟩ = some (.string Aj) := (blk_cell Ac.out 6).trans rfl; have hcz90_7 : w87.cell? ⟨Ae, 7, none⟩ = some (.string ((rd_T34 Aa Ab).f7)) := (blk_cell Ac.out 7).trans rfl; have hcz90_8 : w87.cell? ⟨Ae, 8, none⟩ = some (.string (((rd_T34 Aa Ab).f8) ++ (⟨#[95]⟩ : ByteArray))) := (blk_cell Ac.out 8).trans rfl; have hcz90_9 : w87.cell? ⟨Ae, 9, none⟩ = some (.int .i64 ((rd_T34 Aa Ab).f9)) := (blk_cell Ac.out 9).trans rfl; have hfz90_0 := blk_frozen Ac.out 0; have hfz90_1 := blk_frozen Ac.out 1; have hfz90_2 := blk_frozen Ac.out 2; have hfz90_3 := blk_frozen Ac.out 3; have hfz90_4 := blk_frozen Ac.out 4; have hfz90_5 := blk_frozen Ac.out 5; have hfz90_6 := blk_frozen Ac.out 6; have hfz90_7 := blk_frozen Ac.out 7; have hfz90_8 := blk_frozen Ac.out 8; have hfz90_9 := blk_frozen Ac.out 9; have p83 : 0 ≤ (Ab : Int) := of_decide_eq_true (by first | (with_reducible assumption) | assumption); have q83 : (Ab : Int) < ((Aa.length : Int) : Int) := of_decide_eq_true (by first | (with_reducible assumption) | assumption); obtain ⟨go83, co83, eo83, gb83, gl83, cl83, HG83⟩ := Kd.R_form Ad.out (by omega); (first | cases eo83 | (injection eo83 with ea_ en_ ec_; (first | subst ea_ | (injection ea_ with ea_; subst ea_)); subst ec_; clear en_)); have GB83 := Aside0.mk gb83; have GG83 := Aside0.mk HG83; clear gb83 gl83 HG83; obtain ⟨ce83, hcl83, hM83, hcc83, hfr83⟩ := Kd.R_elem Ad.out z34 (Ab : Int) p83 q83; obtain rfl := k34_openM hM83; have hx83_0 : w87.cell? ⟨go83, (Ab : Int).toNat * 10, none⟩ = some (.int .i64 ((rd_T34 Aa Ab).f0)) := hcc83 0 _ rfl; have hx83_1 : w87.cell? ⟨go83, (Ab : Int).toNat * 10 + 1, none⟩ = some (.int .i64 ((rd_T34 Aa Ab).f1)) := hcc83 1 _ rfl; have hx83_2 : w87.cell? ⟨go83, (Ab : Int).toNat * 10 + 2, none⟩ = some (.int .i64 ((rd_T34 Aa Ab).f2)) := hcc83 2 _ rfl; have hx83_3 : w87.cell? ⟨go83, (Ab : Int).toNat * 10 + 3, none⟩ = some (.int .i64 ((rd_T34 Aa Ab).f3)) := hcc83 3 _ rfl; have hx83_4 : w87.cell? ⟨go83, (Ab : Int).toNat * 10 + 4, none⟩ = some (.int .i64 ((rd_T34 Aa Ab).f4)) := hcc83 4 _ rfl; have hx83_5 : w87.cell? ⟨go83, (Ab : Int).toNat * 10 + 5, none⟩ = some (.string ((rd_T34 Aa Ab).f5)) := hcc83 5 _ rfl; have hx83_6 : w87.cell? ⟨go83, (Ab : Int).toNat * 10 + 6, none⟩ = some (.string ((rd_T34 Aa Ab).f6)) := hcc83 6 _ rfl; have hx83_7 : w87.cell? ⟨go83, (Ab : Int).toNat * 10 + 7, none⟩ = some (.string ((rd_T34 Aa Ab).f7)) := hcc83 7 _ rfl; have hx83_8 : w87.cell? ⟨go83, (Ab : Int).toNat * 10 + 8, none⟩ = some (.string ((rd_T34 Aa Ab).f8)) := hcc83 8 _ rfl; have hx83_9 : w87.cell? ⟨go83, (Ab : Int).toNat * 10 + 9, none⟩ = some (.int .i64 ((rd_T34 Aa Ab).f9)) := hcc83 9 _ rfl; have hf83_0 : w87.frozen? ⟨go83, (Ab : Int).toNat * 10, none⟩ = false := hfr83 0; have hf83_1 : w87.frozen? ⟨go83, (Ab : Int).toNat * 10 + 1, none⟩ = false := hfr83 1; have hf83_2 : w87.frozen? ⟨go83, (Ab : Int).toNat * 10 + 2, none⟩ = false := hfr83 2; have hf83_3 : w87.frozen? ⟨go83, (Ab : Int).toNat * 10 + 3, none⟩ = false := hfr83 3; have hf83_4 : w87.frozen? ⟨go83, (Ab : Int).toNat * 10 + 4, none⟩ = false := hfr83 4; have hf83_5 : w87.frozen? ⟨go83, (Ab : Int).toNat * 10 + 5, none⟩ = false := hfr83 5; have hf83_6 : w87.frozen? ⟨go83, (Ab : Int).toNat * 10 + 6, none⟩ = false := hfr83 6; have hf83_7 : w87.frozen? ⟨go83, (Ab : Int).toNat * 10 + 7, none⟩ = false := hfr83 7; have hf83_8 : w87.frozen? ⟨go83, (Ab : Int).toNat * 10 + 8, none⟩ = false := hfr83 8; have hf83_9 : w87.frozen? ⟨go83, (Ab : Int).toNat * 10 + 9, none⟩ = false := hfr83 9; clear hcl83 hcc83 hfr83 hM83; replace p83 := eq_true p83; replace q83 := eq_true q83; have HX91 := Aside0.mk (show Kd.R k34 34 w87 w.heap.size (fun k_ => k_ ≠ Ae) (.slice (some ⟨go83, 0, none⟩) Aa.length Bc) Aa from (by (with_reducible repeat (first | apply Kd.R_alloc | apply Kd.R_drewN | apply Kd.R_drew)); exact Ad.out)); obtain ⟨ce91, hcl91, hM91, hcc91, hfr91⟩ := Kd.R_elem HX91.out z34 (Ab : Int) (of_decide_eq_true (by first | (with_reducible assumption) | assumption)) (by have h_ : (Ab : Int) < ((Aa.length : Int) : Int) := of_decide_eq_true (by first | (with_reducible assumption) | assumption); first | exact h_ | (have e_ := (Kd.R_reads' Ad.out).1; omega) | simpa using h_); obtain rfl := k34_openM hM91; have HP91 := Kd.R_seg HX91.out (Ab : Int) (of_decide_eq_true (by first | (with_reducible assumption) | assumption)) (by have h_ : (Ab : Int) < ((Aa.length : Int) : Int) := of_decide_eq_true (by first | (with_reducible assumption) | assumption); first | exact h_ | (have e_ := (Kd.R_reads' Ad.out).1; omega) | simpa using h_) (seg := [.int .i64 ((rd_T34 Aa Ab).f0), .int .i64 ((rd_T34 Aa Ab).f1), .int .i64 ((rd_T34 Aa Ab).f2), .int .i64 ((rd_T34 Aa Ab).f3), .int .i64 ((rd_T34 Aa Ab).f4), .string Ai, .string Aj, .string ((rd_T34 Aa Ab).f7), .string (((rd_T34 Aa Ab).f8) ++ (⟨#[95]⟩ : ByteArray)), .int .i64 ((rd_T34 Aa Ab).f9)]) (j := 0) hcl91 hcc91 (show 10 ≤ 10 from by decide) (x' := (⟨((rd_T34 Aa Ab).f0), ((rd_T34 Aa Ab).f1), ((rd_T34 Aa Ab).f2), ((rd_T34 Aa Ab).f3), ((rd_T34 Aa Ab).f4), Ai, Aj, ((rd_T34 Aa Ab).f7), ((rd_T34 Aa Ab).f8) ++ (⟨#[95]⟩ : ByteArray), ((rd_T34 Aa Ab).f9)⟩ : S34)) (k34_mkM _ _ _ (⟨((rd_T34 Aa Ab).f0), ((rd_T34 Aa Ab).f1), ((rd_T34 Aa Ab).f2), ((rd_T34 Aa Ab).f3), ((rd_T34 Aa Ab).f4), Ai, Aj, ((rd_T34 Aa Ab).f7), ((rd_T34 Aa Ab).f8) ++ (⟨#[95]⟩ : ByteArray), ((rd_T34 Aa Ab).f9)⟩ : S34) ) (fun _ hk => hk); have hx91_0 := hcc91 0 _ rfl; (try simp only [show (k34).sz = 10 from rfl, Nat.mul_one, Nat.add_zero] at hx91_0); have hf91_0 := hfr91 0; (try simp only [show (k34).sz = 10 from rfl, Nat.mul_one, Nat.add_zero] at hf91_0); have hx91_1 := hcc91 1 _ rfl; (try simp only [show (k34).sz = 10 from rfl, Nat.mul_one, Nat.add_zero] at hx91_1); have hf91_1 := hfr91 1; (try simp only [show (k34).sz = 10 from rfl, Nat.mul_one, Nat.add_zero] at hf91_1); have hx91_2 := hcc91 2 _ rfl; (try simp only [show (k34).sz = 10 from rfl, Nat.mul_one, Nat.add_zero] at hx91_2); have hf91_2 := hfr91 2; (try simp only [show (k34).sz = 10 from rfl, Nat.mul_one, Nat.add_zero] at hf91_2); have hx91_3 := hcc91 3 _ rfl; (try simp only [show (k34).sz = 10 from rfl, Nat.mul_one, Nat.add_zero] at hx91_3); have hf91_3 := hfr91 3; (try simp only [show (k34).sz = 10 from rfl, Nat.mul_one, Nat.add_zero] at hf91_3); have hx91_4 := hcc91 4 _ rfl; (try simp only [show (k34).sz = 10 from rfl, Nat.mul_one, Nat.add_zero] at hx91_4); have hf91_4 := hfr91 4; (try simp only [show (k34).sz = 10 from rfl, Nat.mul_one, Nat.add_zero] at hf91_4); have hx91_5 := hcc91 5 _ rfl; (try simp only [show (k34).sz = 10 from rfl, Nat.mul_one, Nat.add_zero] at hx91_5); have hf91_5 := hfr91 5; (try simp only [show (k34).sz = 10 from rfl, Nat.mul_one, Nat.add_zero] at hf91_5); have hx91_6 := hcc91 6 _ rfl; (try simp only [show (k34).sz = 10 from rfl, Nat.mul_one, Nat.add_zero] at hx91_6); have hf91_6 := hfr91 6; (try simp only [show (k34).sz = 10 from rfl, Nat.mul_one, Nat.add_zero] at hf91_6); have hx91_7 := hcc91 7 _ rfl; (try simp only [show (k34).sz = 10 from rfl, Nat.mul_one, Nat.add_zero] at hx91_7); have hf91_7 := hfr91 7; (try simp only [show (k34).sz = 10 from rfl, Nat.mul_one, Nat.add_zero] at hf91_7); have hx91_8 := hcc91 8 _ rfl; (try simp only [show (k34).sz = 10 from rfl, Nat.mul_one, Nat.add_zero] at hx91_8); have hf91_8 := hfr91 8; (try simp only [show (k34).sz = 10 from rfl, Nat.mul_one, Nat.add_zero] at hf91_8); have hx91_9 := hcc91 9 _ rfl; (try simp only [show (k34).sz = 10 from rfl, Nat.mul_one, Nat.add_zero] at hx91_9); have hf91_9 := hfr91 9; (try simp only [show (k34).sz = 10 from rfl, Nat.mul_one, Nat.add_zero] at hf91_9); clear hcl91 hcc91 hfr91 hM91) | ((with_reducible refine gate_store (t := 34) (p := 96) rfl ?_); refine store_event (t := 34) (p := 96) (v := ?vo_w92) (w1 := ((((((((((w87.setCell ⟨go83, (Ab : Int).toNat * 10, none⟩ (.int .i64 ((rd_T34 Aa Ab).f0))).setCell ⟨go83, (Ab : Int).toNat * 10 + 1, none⟩ (.int .i64 ((rd_T34 Aa Ab).f1))).setCell ⟨go83, (Ab : Int).toNat * 10 + 2, none⟩ (.int .i64 ((rd_T34 Aa Ab).f2))).setCell ⟨go83, (Ab : Int).toNat * 10 + 3, none⟩ (.int .i64 ((rd_T34 Aa Ab).f3))).setCell ⟨go83, (Ab : Int).toNat * 10 + 4, none⟩ (.int .i64 ((rd_T34 Aa Ab).f4))).setCell ⟨go83, (Ab : Int).toNat * 10 + 5, none⟩ (.string Ai)).setCell ⟨go83, (Ab : Int).toNat * 10 + 6, none⟩ (.string Aj)).setCell ⟨go83, (Ab : Int).toNat * 10 + 7, none⟩ (.string ((rd_T34 Aa Ab).f7))).setCell ⟨go83, (Ab : Int).toNat * 10 + 8, none⟩ (.string (((rd_T34 Aa Ab).f8) ++ (⟨#[95]⟩ : ByteArray)))).setCell ⟨go83, (Ab : Int).toNat * 10 + 9, none⟩ (.int .i64 ((rd_T34 Aa Ab).f9)))) ?hg ?ho ?hn ?hr ?_; (case ho => rfl); (case hg => rfl); (case hn => rfl); (case hr => first | (go_simp; done) | (go_simp; rfl)); intro w92 hw; have hg : w87.grownBy w92 (some go83) := (by rw [hw]; exact HP91.2); have hp_ : Kd.R k34 34 w92 w.heap.size (fun k_ => k_ ≠ Ae) (.slice (some ⟨go83, 0, none⟩) Aa.length Bc) y359 := (by rw [hw, Ny359.out]; exact HP91.1); clear HP91; have Ba := Aside0.mk (Kd.R_over' (v := (.slice (some ⟨go83, 0, none⟩) Aa.length Bc)) (by (with_reducible repeat (first | apply Kd.R_alloc | apply Kd.R_drewN | apply Kd.R_drew)); exact Af.out) (Kd.R_typed Ad.out) (by decide) hg); have Bb := Aside0.mk (hp_); have Bg := Aside0.mk (blk_grown (g := Al) (o := .cells #[.slice A0_0 l0_0.length c0_0, .slice A0_1 l0_1.length c0_1] 25 (0, 0)) (by (with_reducible repeat (first | refine blk_drewN ?_ _ | refine blk_drew ?_ | refine blk_alloc ?_ _)); exact Ag.out) hg (Kd.R_ne Ad.out Ag.out (by decide))); have Bi := Aside0.mk (blk_grown (g := Ak) (o := .cells #[.slice Aw Ao.length Av, .slice (some ⟨go83, 0, none⟩) Aa.length Bc] 25 (0, 0)) (by (with_reducible repeat (first | refine blk_drewN ?_ _ | refine blk_drew ?_ | refine blk_alloc ?_ _)); exact Ah.out) hg (Kd.R_ne Ad.out Ah.out (by decide))); have Bk := Aside0.mk (blk_grown (g := Ae) (o := .cells #[.int .i64 ((rd_T34 Aa Ab).f0), .int .i64 ((rd_T34 Aa Ab).f1), .int .i64 ((rd_T34 Aa Ab).f2), .int .i64 ((rd_T34 Aa Ab).f3), .int .i64 ((rd_T34 Aa Ab).f4), .string Ai, .string Aj, .string ((rd_T34 Aa Ab).f7), .string (((rd_T34 Aa Ab).f8) ++ (⟨#[95]⟩ : ByteArray)), .int .i64 ((rd_T34 Aa Ab).f9)] 34 (0, 0)) (by (with_reducible repeat (first | refine blk_drewN ?_ _ | refine blk_drew ?_ | refine blk_alloc ?_ _)); exact Ac.out) hg (Kd.R_away Ad.out (fun _ hk => hk))); have Bn := Aside0.mk ((by rw [hw]; exact below_set (below_set (below_set (below_set (below_set (below_set (below_set (below_set (below_set (below_set (HB.out) GB83.out) GB83.out) GB83.out) GB83.out) GB83.out) GB83.out) GB83.out) GB83.out) GB83.out) GB83.out : Below w.heap.size w w92)); clear Af Ad Ag Ah Ac HB; have Af := Ba; have Ad := Bb; have Ag := Bg; have Ah := Bi; have Ac := Bk; have HB := Bn; clear Ba Bb Bg Bi Bk Bn; clear hg hw hp_))
                    go_roundg kj58
                    case measure => have := HK1.out; have := HJ20.out; have := HJ44.out; have := HJ52.out; have := HJ58.out; omega
                    case rel => exact ⟨(wrap64 (Ab + 1)), (y359), (.slice (some ⟨go83, 0, none⟩) Aa.length Bc), (by first | rfl | (simp; done) | (simp [*]; done)), H', ⟨by have := HK1.out; have := HJ20.out; have := HJ44.out; have := HJ52.out; have := HJ58.out; omega⟩, ⟨by (with_reducible repeat (first | apply Kd.R_alloc | apply Kd.R_drewN | apply Kd.R_drew)); exact Af.out⟩, ⟨by (with_reducible repeat (first | apply Kd.R_alloc | apply Kd.R_drewN | apply Kd.R_drew)); exact Kd.R_mono Ad.out (fun _ hk => trivial)⟩, ⟨by (with_reducible repeat (first | refine blk_drewN ?_ _ | refine blk_drew ?_ | refine blk_alloc ?_ _)); exact Ag.out⟩, ⟨by (with_reducible repeat (first | refine blk_drewN ?_ _ | refine blk_drew ?_ | refine blk_alloc ?_ _)); exact Ah.out⟩, ⟨by repeat (first | (with_reducible first | exact HB.out | apply below_alloc | apply pw_below_drewN | apply below_drew1 | refine below_set ?_ Am.out | refine below_set ?_ Ap.out | refine below_set ?_ Br.out) | exact HB.out)⟩⟩
                   ·
                    rw [if_neg c82] at H
                    exact absurd H (by simp)
                  ·
                   rw [if_neg c81] at H
                   exact absurd H (by simp)
                 ·
                  rw [if_neg c80] at H
                  exact absurd H (by simp)
               ·
                rw [if_neg c68] at H
                have c68b0 : (((rd_T34 Aa Ab).f7).toList == ([] : List UInt8)) = false := beq_eq_false_iff_ne.mpr c68
                have c68b1 : (((rd_T34 Aa Ab).f7).toList != ([] : List UInt8)) = true := bne_iff_ne.mpr c68
                have Lm : (((rd_T34 Aa Ab).f7).toList.isEmpty) = false := by simpa using c68
                try rw [Lm]
                by_cases c93 : ((rd_T34 Aa Ab).f7).size + 1 ≤ 9223372036854775807
                ·
                 rw [if_pos c93] at H
                 have c93b0 := eq_true c93
                 have c93b1 : decide (((rd_T34 Aa Ab).f7).size + 1 ≤ 9223372036854775807) = true := decide_eq_true c93
                 try have c93b2 : (9223372036854775807 < ((rd_T34 Aa Ab).f7).size + 1) = False := eq_false (Nat.not_lt.2 c93)
                 by_cases c94 : ((rd_T34 Aa Ab).f8).toList = ([] : List UInt8)
                 ·
                  rw [if_pos c94] at H
                  have c94b0 : (((rd_T34 Aa Ab).f8).toList == ([] : List UInt8)) = true := beq_iff_eq.mpr c94
                  have c94b1 : (((rd_T34 Aa Ab).f8).toList != ([] : List UInt8)) = false := bne_eq_false_iff_eq.mpr c94
                  have Lo : (((rd_T34 Aa Ab).f8).toList.isEmpty) = true := by simpa using c94
                  try rw [Lo]
                  clear c94
                  by_cases c95 : 0 ≤ Ab
                  ·
                   rw [if_pos c95] at H
                   have c95b0 : decide (0 ≤ Ab) = true := decide_eq_true c95
                   clear c95
                   by_cases c96 : Ab < (Aa.length : Int)
                   ·
                    rw [if_pos c96] at H
                    have c96b0 : decide (Ab < (Aa.length : Int)) = true := decide_eq_true c96
                    clear c96
                    obtain ⟨y360, hy360⟩ : ∃ y_ : List (S34), y_ = (Aa.set (Ab : Int).toNat (⟨((rd_T34 Aa Ab).f0), ((rd_T34 Aa Ab).f1), ((rd_T34 Aa Ab).f2), ((rd_T34 Aa Ab).f3), ((rd_T34 Aa Ab).f4), Ai, Aj, ((rd_T34 Aa Ab).f7) ++ (⟨#[95]⟩ : ByteArray), ((rd_T34 Aa Ab).f8), ((rd_T34 Aa Ab).f9)⟩ : S34)) := ⟨_, rfl⟩
                    replace H : (trammellaw6_ScopeNames.l0 kj58 (wrap64 (Ab + 1)) l0_0 l0_1 Ao y360) = some r := by first | (rw [hy360]; with_reducible exact H) | (have H2_ := (Option.bind_some _ _).symm.trans H; rw [hy360]; with_reducible exact H2_) | (have H2_ := (Option.bind_some _ _).symm.trans H; with_reducible exact H2_) | with_reducible exact H | (rw [hy360]; exact H) | exact H
                    have Ny360 := Aside0.mk hy360
                    clear hy360
                    have H' := Aside0.mk H
                    clear H
                    have hnb98 := Ay.out
                    have hnc98 := Aq.out
                    have hnb99 := Az.out
                    have hnc99 := Ar.out
                    have hcz100_0 : wc.cell? ⟨Ae, 0, none⟩ = some (.int .i64 ((rd_T34 Aa Ab).f0)) := (blk_cell Ac.out 0).trans rfl
                    have hcz100_1 : wc.cell? ⟨Ae, 1, none⟩ = some (.int .i64 ((rd_T34 Aa Ab).f1)) := (blk_cell Ac.out 1).trans rfl
                    have hcz100_2 : wc.cell? ⟨Ae, 2, none⟩ = some (.int .i64 ((rd_T34 Aa Ab).f2)) := (blk_cell Ac.out 2).trans rfl
                    have hcz100_3 : wc.cell? ⟨Ae, 3, none⟩ = some (.int .i64 ((rd_T34 Aa Ab).f3)) := (blk_cell Ac.out 3).trans rfl
                    have hcz100_4 : wc.cell? ⟨Ae, 4, none⟩ = some (.int .i64 ((rd_T34 Aa Ab).f4)) := (blk_cell Ac.out 4).trans rfl
                    have hcz100_5 : wc.cell? ⟨Ae, 5, none⟩ = some (.string Ai) := (blk_cell Ac.out 5).trans rfl
                    have hcz100_6 : wc.cell? ⟨Ae, 6, none⟩ = some (.string Aj) := (blk_cell Ac.out 6).trans rfl
                    have hcz100_7 : wc.cell? ⟨Ae, 7, none⟩ = some (.string ((rd_T34 Aa Ab).f7)) := (blk_cell Ac.out 7).trans rfl
                    have hcz100_8 : wc.cell? ⟨Ae, 8, none⟩ = some (.string ((rd_T34 Aa Ab).f8)) := (blk_cell Ac.out 8).trans rfl
                    have hcz100_9 : wc.cell? ⟨Ae, 9, none⟩ = some (.int .i64 ((rd_T34 Aa Ab).f9)) := (blk_cell Ac.out 9).trans rfl
                    have hfz100_0 := blk_frozen Ac.out 0
                    have hfz100_1 := blk_frozen Ac.out 1
                    have hfz100_2 := blk_frozen Ac.out 2
                    have hfz100_3 := blk_frozen Ac.out 3
                    have hfz100_4 := blk_frozen Ac.out 4
                    have hfz100_5 := blk_frozen Ac.out 5
                    have hfz100_6 := blk_frozen Ac.out 6
                    have hfz100_7 := blk_frozen Ac.out 7
                    have hfz100_8 := blk_frozen Ac.out 8
                    have hfz100_9 := blk_frozen Ac.out 9
                    go_wp2_with (first | ((with_reducible refine gate_store (t := 9) (p := 84) rfl ?_); refine store_event (t := 9) (p := 84) (v := ?vo_w101) (w1 := (wc.setCell ⟨Ae, 7, none⟩ (.string (((rd_T34 Aa Ab).f7) ++ (⟨#[95]⟩ : ByteArray))))) ?hg ?ho ?hn ?hr ?_; (case ho => rfl); (case hg => rfl); (case hn => rfl); (case hr => first | (go_simp; done) | (go_simp; rfl)); intro w101 hw; have Ba : Aside0 (Kd.R k45 45 w101 w.heap.size (fun _ => True) (.slice Aw Ao.length Av) Ao) := ⟨(by rw [hw]; exact (by (with_reducible repeat (first | apply Kd.R_alloc | apply Kd.R_drewN | apply Kd.R_drew)); exact Kd.R_mono (Kd.R_far (p := ⟨Ae, 7, none⟩) (Kd.R_types Af.out Ac.out (by decide)) (fun _ hk => hk.2) (.string (((rd_T34 Aa Ab).f7) ++ (⟨#[95]⟩ : ByteArray)))) (fun _ hk => trivial)))⟩; have Bb : Aside0 (Kd.R k34 34 w101 w.heap.size (fun k_ => k_ ≠ Ae) (.slice (some Bl) Aa.length Bc) Aa) := ⟨(by rw [hw]; exact (by (with_reducible repeat (first | apply Kd.R_alloc | apply Kd.R_drewN | apply Kd.R_drew)); exact Kd.R_mono (Kd.R_far (p := ⟨Ae, 7, none⟩) (Kd.R_mono Ad.out (fun k_ hk => (⟨hk, hk⟩ : _ ∧ k_ ≠ Ae))) (fun _ hk => hk.2) (.string (((rd_T34 Aa Ab).f7) ++ (⟨#[95]⟩ : ByteArray)))) (fun _ hk => hk.1)))⟩; have Bg : Aside0 (w101.heap[Al]? = some (.cells #[.slice A0_0 l0_0.length c0_0, .slice A0_1 l0_1.length c0_1] 25 (0, 0))) := ⟨(by rw [hw]; exact (by (with_reducible repeat (first | refine blk_drewN ?_ _ | refine blk_drew ?_ | refine blk_alloc ?_ _)); refine blk_far ?_ Aq.out _; (with_reducible repeat (first | refine blk_drewN ?_ _ | refine blk_drew ?_ | refine blk_alloc ?_ _)); exact Ag.out))⟩; have Bi : Aside0 (w101.heap[Ak]? = some (.cells #[.slice Aw Ao.length Av, .slice (some Bl) Aa.length Bc] 25 (0, 0))) := ⟨(by rw [hw]; exact (by (with_reducible repeat (first | refine blk_drewN ?_ _ | refine blk_drew ?_ | refine blk_alloc ?_ _)); refine blk_far ?_ Ar.out _; (with_reducible repeat (first | refine blk_drewN ?_ _ | refine blk_drew ?_ | refine blk_alloc ?_ _)); exact Ah.out))⟩; have Bk : Aside0 (w101.heap[Ae]? = some (.cells #[.int .i64 ((rd_T34 Aa Ab).f0), .int .i64 ((rd_T34 Aa Ab).f1), .int .i64 ((rd_T34 Aa Ab).f2), .int .i64 ((rd_T34 Aa Ab).f3), .int .i64 ((rd_T34 Aa Ab).f4), .string Ai, .string Aj, .string (((rd_T34 Aa Ab).f7) ++ (⟨#[95]⟩ : ByteArray)), .string ((rd_T34 Aa Ab).f8), .int .i64 ((rd_T34 Aa Ab).f9)] 34 (0, 0))) := ⟨(by rw [hw]; exact (by (with_reducible repeat (first | refine blk_drewN ?_ _ | refine blk_drew ?_ | refine blk_alloc ?_ _)); refine blk_put (cs := #[.int .i64 ((rd_T34 Aa Ab).f0), .int .i64 ((rd_T34 Aa Ab).f1), .int .i64 ((rd_T34 Aa Ab).f2), .int .i64 ((rd_T34 Aa Ab).f3), .int .i64 ((rd_T34 Aa Ab).f4), .string Ai, .string Aj, .string ((rd_T34 Aa Ab).f7), .string ((rd_T34 Aa Ab).f8), .int .i64 ((rd_T34 Aa Ab).f9)]) ?_ 7 _ rfl; (with_reducible repeat (first | refine blk_drewN ?_ _ | refine blk_drew ?_ | refine blk_alloc ?_ _)); exact Ac.out))⟩; have Bn : Aside0 (Below w.heap.size w w101) := ⟨(by rw [hw]; exact (by repeat (first | (with_reducible first | exact HB.out | apply below_alloc | apply pw_below_drewN | apply below_drew1 | refine below_set ?_ Am.out | refine below_set ?_ Ap.out | refine below_set ?_ Br.out) | exact HB.out)))⟩; clear hw Af Ad Ag Ah Ac HB; have Af := Ba; have Ad := Bb; have Ag := Bg; have Ah := Bi; have Ac := Bk; have HB := Bn; clear Ba Bb Bg Bi Bk Bn; have hcz102_0 : w101.cell? ⟨Ae, 0, none⟩ = some (.int .i64 ((rd_T34 Aa Ab).f0)) := (blk_cell Ac.out 0).trans rfl; have hcz102_1 : w101.cell? ⟨Ae, 1, none⟩ = some (.int .i64 ((rd_T34 Aa Ab).f1)) := (blk_cell Ac.out 1).trans rfl; have hcz102_2 : w101.cell? ⟨Ae, 2, none⟩ = some (.int .i64 ((rd_T34 Aa Ab).f2)) := (blk_cell Ac.out 2).trans rfl; have hcz102_3 : w101.cell? ⟨Ae, 3, none⟩ = some (.int .i64 ((rd_T34 Aa Ab).f3)) := (blk_cell Ac.out 3).trans rfl; have hcz102_4 : w101.cell? ⟨Ae, 4, none⟩ = some (.int .i64 ((rd_T34 Aa Ab).f4)) := (blk_cell Ac.out 4).trans rfl; have hcz102_5 : w101.cell? ⟨Ae, 5, none⟩ = some (.string Ai) := (blk_cell Ac.out 5).trans rfl; have hcz102_6 : w101.cell? ⟨Ae, 6, none⟩ = some (.string Aj) := (blk_cell Ac.out 6).trans rfl; have hcz102_7 : w101.cell? ⟨Ae, 7, none⟩ = some (.string (((rd_T34 Aa Ab).f7) ++ (⟨#[95]⟩ : ByteArray))) := (blk_cell Ac.out 7).trans rfl; have hcz102_8 : w101.cell? ⟨Ae, 8, none⟩ = some (.string ((rd_T34 Aa Ab).f8)) := (blk_cell Ac.out 8).trans rfl; have hcz102_9 : w101.cell? ⟨Ae, 9, none⟩ = some (.int .i64 ((rd_T34 Aa Ab).f9)) := (blk_cell Ac.out 9).trans rfl; have hfz102_0 := blk_frozen Ac.out 0; have hfz102_1 := blk_frozen Ac.out 1; have hfz102_2 := blk_frozen Ac.out 2; have hfz102_3 := blk_frozen Ac.out 3; have hfz102_4 := blk_frozen Ac.out 4; have hfz102_5 := blk_frozen Ac.out 5; have hfz102_6 := blk_frozen Ac.out 6; have hfz102_7 := blk_frozen Ac.out 7; have hfz102_8 := blk_frozen Ac.out 8; have hfz102_9 := blk_frozen Ac.out 9; have hnb103 := Ax.out; have hnc103 := At.out; have hcz104_0 : w101.cell? ⟨Ak, 0, none⟩ = some (.slice Aw Ao.length Av) := (blk_cell Ah.out 0).trans rfl; have hcz104_1 : w101.cell? ⟨Ak, 1, none⟩ = some (.slice (some Bl) Aa.length Bc) := (blk_cell Ah.out 1).trans rfl; have hfz104_0 := blk_frozen Ah.out 0; have hfz104_1 := blk_frozen Ah.out 1; have p97 : 0 ≤ (Ab : Int) := of_decide_eq_true (by first | (with_reducible assumption) | assumption); have q97 : (Ab : Int) < ((Aa.length : Int) : Int) := of_decide_eq_true (by first | (with_reducible assumption) | assumption); obtain ⟨go97, co97, eo97, gb97, gl97, cl97, HG97⟩ := Kd.R_form Ad.out (by omega); (first | cases eo97 | (injection eo97 with ea_ en_ ec_; (first | subst ea_ | (injection ea_ with ea_; subst ea_)); subst ec_; clear en_)); have GB97 := Aside0.mk gb97; have GG97 := Aside0.mk HG97; clear gb97 gl97 HG97; obtain ⟨ce97, hcl97, hM97, hcc97, hfr97⟩ := Kd.R_elem Ad.out z34 (Ab : Int) p97 q97; obtain rfl := k34_openM hM97; have hx97_0 : w101.cell? ⟨go97, (Ab : Int).toNat * 10, none⟩ = some (.int .i64 ((rd_T34 Aa Ab).f0)) := hcc97 0 _ rfl; have hx97_1 : w101.cell? ⟨go97, (Ab : Int).toNat * 10 + 1, none⟩ = some (.int .i64 ((rd_T34 Aa Ab).f1)) := hcc97 1 _ rfl; have hx97_2 : w101.cell? ⟨go97, (Ab : Int).toNat * 10 + 2, none⟩ = some (.int .i64 ((rd_T34 Aa Ab).f2)) := hcc97 2 _ rfl; have hx97_3 : w101.cell? ⟨go97, (Ab : Int).toNat * 10 + 3, none⟩ = some (.int .i64 ((rd_T34 Aa Ab).f3)) := hcc97 3 _ rfl; have hx97_4 : w101.cell? ⟨go97, (Ab : Int).toNat * 10 + 4, none⟩ = some (.int .i64 ((rd_T34 Aa Ab).f4)) := hcc97 4 _ rfl; have hx97_5 : w101.cell? ⟨go97, (Ab : Int).toNat * 10 + 5, none⟩ = some (.string ((rd_T34 Aa Ab).f5)) := hcc97 5 _ rfl; have hx97_6 : w101.cell? ⟨go97, (Ab : Int).toNat * 10 + 6, none⟩ = some (.string ((rd_T34 Aa Ab).f6)) := hcc97 6 _ rfl; have hx97_7 : w101.cell? ⟨go97, (Ab : Int).toNat * 10 + 7, none⟩ = some (.string ((rd_T34 Aa Ab).f7)) := hcc97 7 _ rfl; have hx97_8 : w101.cell? ⟨go97, (Ab : Int).toNat * 10 + 8, none⟩ = some (.string ((rd_T34 Aa Ab).f8)) := hcc97 8 _ rfl; have hx97_9 : w101.cell? ⟨go97, (Ab : Int).toNat * 10 + 9, none⟩ = some (.int .i64 ((rd_T34 Aa Ab).f9)) := hcc97 9 _ rfl; have hf97_0 : w101.frozen? ⟨go97, (Ab : Int).toNat * 10, none⟩ = false := hfr97 0; have hf97_1 : w101.frozen? ⟨go97, (Ab : Int).toNat * 10 + 1, none⟩ = false := hfr97 1; have hf97_2 : w101.frozen? ⟨go97, (Ab : Int).toNat * 10 + 2, none⟩ = false := hfr97 2; have hf97_3 : w101.frozen? ⟨go97, (Ab : Int).toNat * 10 + 3, none⟩ = false := hfr97 3; have hf97_4 : w101.frozen? ⟨go97, (Ab : Int).toNat * 10 + 4, none⟩ = false := hfr97 4; have hf97_5 : w101.frozen? ⟨go97, (Ab : Int).toNat * 10 + 5, none⟩ = false := hfr97 5; have hf97_6 : w101.frozen? ⟨go97, (Ab : Int).toNat * 10 + 6, none⟩ = false := hfr97 6; have hf97_7 : w101.frozen? ⟨go97, (Ab : Int).toNat * 10 + 7, none⟩ = false := hfr97 7; have hf97_8 : w101.frozen? ⟨go97, (Ab : Int).toNat * 10 + 8, none⟩ = false := hfr97 8; have hf97_9 : w101.frozen? ⟨go97, (Ab : Int).toNat * 10 + 9, none⟩ = false := hfr97 9; clear hcl97 hcc97 hfr97 hM97; replace p97 := eq_true p97; replace q97 := eq_true q97; have HX105 := Aside0.mk (show Kd.R k34 34 w101 w.heap.size (fun k_ => k_ ≠ Ae) (.slice (some ⟨go97, 0, none⟩) Aa.length Bc) Aa from (by (with_reducible repeat (first | apply Kd.R_alloc | apply Kd.R_drewN | apply Kd.R_drew)); exact Ad.out)); obtain ⟨ce105, hcl105, hM105, hcc105, hfr105⟩ := Kd.R_elem HX105.out z34 (Ab : Int) (of_decide_eq_true (by first | (with_reducible assumption) | assumption)) (by have h_ : (Ab : Int) < ((Aa.length : Int) : Int) := of_decide_eq_true (by first | (with_reducible assumption) | assumption); first | exact h_ | (have e_ := (Kd.R_reads' Ad.out).1; omega) | simpa using h_); obtain rfl := k34_openM hM105; have HP105 := Kd.R_seg HX105.out (Ab : Int) (of_decide_eq_true (by first | (with_reducible assumption) | assumption)) (by have h_ : (Ab : Int) < ((Aa.length : Int) : Int) := of_decide_eq_true (by first | (with_reducible assumption) | assumption); first | exact h_ | (have e_ := (Kd.R_reads' Ad.out).1; omega) | simpa using h_) (seg := [.int .i64 ((rd_T34 Aa Ab).f0), .int .i64 ((rd_T34 Aa Ab).f1), .int .i64 ((rd_T34 Aa Ab).f2), .int .i64 ((rd_T34 Aa Ab).f3), .int .i64 ((rd_T34 Aa Ab).f4), .string Ai, .string Aj, .string (((rd_T34 Aa Ab).f7) ++ (⟨#[95]⟩ : ByteArray)), .string ((rd_T34 Aa Ab).f8), .int .i64 ((rd_T34 Aa Ab).f9)]) (j := 0) hcl105 hcc105 (show 10 ≤ 10 from by decide) (x' := (⟨((rd_T34 Aa Ab).f0), ((rd_T34 Aa Ab).f1), ((rd_T34 Aa Ab).f2), ((rd_T34 Aa Ab).f3), ((rd_T34 Aa Ab).f4), Ai, Aj, ((rd_T34 Aa Ab).f7) ++ (⟨#[95]⟩ : ByteArray), ((rd_T34 Aa Ab).f8), ((rd_T34 Aa Ab).f9)⟩ : S34)) (k34_mkM _ _ _ (⟨((rd_T34 Aa Ab).f0), ((rd_T34 Aa Ab).f1), ((rd_T34 Aa Ab).f2), ((rd_T34 Aa Ab).f3), ((rd_T34 Aa Ab).f4), Ai, Aj, ((rd_T34 Aa Ab).f7) ++ (⟨#[95]⟩ : ByteArray), ((rd_T34 Aa Ab).f8), ((rd_T34 Aa Ab).f9)⟩ : S34) ) (fun _ hk => hk); have hx105_0 := hcc105 0 _ rfl; (try simp only [show (k34).sz = 10 from rfl, Nat.mul_one, Nat.add_zero] at hx105_0); have hf105_0 := hfr105 0; (try simp only [show (k34).sz = 10 from rfl, Nat.mul_one, Nat.add_zero] at hf105_0); have hx105_1 := hcc105 1 _ rfl; (try simp only [show (k34).sz = 10 from rfl, Nat.mul_one, Nat.add_zero] at hx105_1); have hf105_1 := hfr105 1; (try simp only [show (k34).sz = 10 from rfl, Nat.mul_one, Nat.add_zero] at hf105_1); have hx105_2 := hcc105 2 _ rfl; (try simp only [show (k34).sz = 10 from rfl, Nat.mul_one, Nat.add_zero] at hx105_2); have hf105_2 := hfr105 2; (try simp only [show (k34).sz = 10 from rfl, Nat.mul_one, Nat.add_zero] at hf105_2); have hx105_3 := hcc105 3 _ rfl; (try simp only [show (k34).sz = 10 from rfl, Nat.mul_one, Nat.add_zero] at hx105_3); have hf105_3 := hfr105 3; (try simp only [show (k34).sz = 10 from rfl, Nat.mul_one, Nat.add_zero] at hf105_3); have hx105_4 := hcc105 4 _ rfl; (try simp only [show (k34).sz = 10 from rfl, Nat.mul_one, Nat.add_zero] at hx105_4); have hf105_4 := hfr105 4; (try simp only [show (k34).sz = 10 from rfl, Nat.mul_one, Nat.add_zero] at hf105_4); have hx105_5 := hcc105 5 _ rfl; (try simp only [show (k34).sz = 10 from rfl, Nat.mul_one, Nat.add_zero] at hx105_5); have hf105_5 := hfr105 5; (try simp only [show (k34).sz = 10 from rfl, Nat.mul_one, Nat.add_zero] at hf105_5); have hx105_6 := hcc105 6 _ rfl; (try simp only [show (k34).sz = 10 from rfl, Nat.mul_one, Nat.add_zero] at hx105_6); have hf105_6 := hfr105 6; (try simp only [show (k34).sz = 10 from rfl, Nat.mul_one, Nat.add_zero] at hf105_6); have hx105_7 := hcc105 7 _ rfl; (try simp only [show (k34).sz = 10 from rfl, Nat.mul_one, Nat.add_zero] at hx105_7); have hf105_7 := hfr105 7; (try simp only [show (k34).sz = 10 from rfl, Nat.mul_one, Nat.add_zero] at hf105_7); have hx105_8 := hcc105 8 _ rfl; (try simp only [show (k34).sz = 10 from rfl, Nat.mul_one, Nat.add_zero] at hx105_8); have hf105_8 := hfr105 8; (try simp only [show (k34).sz = 10 from rfl, Nat.mul_one, Nat.add_zero] at hf105_8); have hx105_9 := hcc105 9 _ rfl; (try simp only [show (k34).sz = 10 from rfl, Nat.mul_one, Nat.add_zero] at hx105_9); have hf105_9 := hfr105 9; (try simp only [show (k34).sz = 10 from rfl, Nat.mul_one, Nat.add_zero] at hf105_9); clear hcl105 hcc105 hfr105 hM105) | ((with_reducible refine gate_store (t := 34) (p := 96) rfl ?_); refine store_event (t := 34) (p := 96) (v := ?vo_w106) (w1 := ((((((((((w101.setCell ⟨go97, (Ab : Int).toNat * 10, none⟩ (.int .i64 ((rd_T34 Aa Ab).f0))).setCell ⟨go97, (Ab : Int).toNat * 10 + 1, none⟩ (.int .i64 ((rd_T34 Aa Ab).f1))).setCell ⟨go97, (Ab : Int).toNat * 10 + 2, none⟩ (.int .i64 ((rd_T34 Aa Ab).f2))).setCell ⟨go97, (Ab : Int).toNat * 10 + 3, none⟩ (.int .i64 ((rd_T34 Aa Ab).f3))).setCell ⟨go97, (Ab : Int).toNat * 10 + 4, none⟩ (.int .i64 ((rd_T34 Aa Ab).f4))).setCell ⟨go97, (Ab : Int).toNat * 10 + 5, none⟩ (.string Ai)).setCell ⟨go97, (Ab : Int).toNat * 10 + 6, none⟩ (.string Aj)).setCell ⟨go97, (Ab : Int).toNat * 10 + 7, none⟩ (.string (((rd_T34 Aa Ab).f7) ++ (⟨#[95]⟩ : ByteArray)))).setCell ⟨go97, (Ab : Int).toNat * 10 + 8, none⟩ (.string ((rd_T34 Aa Ab).f8))).setCell ⟨go97, (Ab : Int).toNat * 10 + 9, none⟩ (.int .i64 ((rd_T34 Aa Ab).f9)))) ?hg ?ho ?hn ?hr ?_; (case ho => rfl); (case hg => rfl); (case hn => rfl); (case hr => first | (go_simp; done) | (go_simp; rfl)); intro w106 hw; have hg : w101.grownBy w106 (some go97) := (by rw [hw]; exact HP105.2); have hp_ : Kd.R k34 34 w106 w.heap.size (fun k_ => k_ ≠ Ae) (.slice (some ⟨go97, 0, none⟩) Aa.length Bc) y360 := (by rw [hw, Ny360.out]; exact HP105.1); clear HP105; have Ba := Aside0.mk (Kd.R_over' (v := (.slice (some ⟨go97, 0, none⟩) Aa.length Bc)) (by (with_reducible repeat (first | apply Kd.R_alloc | apply Kd.R_drewN | apply Kd.R_drew)); exact Af.out) (Kd.R_typed Ad.out) (by decide) hg); have Bb := Aside0.mk (hp_); have Bg := Aside0.mk (blk_grown (g := Al) (o := .cells #[.slice A0_0 l0_0.length c0_0, .slice A0_1 l0_1.length c0_1] 25 (0, 0)) (by (with_reducible repeat (first | refine blk_drewN ?_ _ | refine blk_drew ?_ | refine blk_alloc ?_ _)); exact Ag.out) hg (Kd.R_ne Ad.out Ag.out (by decide))); have Bi := Aside0.mk (blk_grown (g := Ak) (o := .cells #[.slice Aw Ao.length Av, .slice (some ⟨go97, 0, none⟩) Aa.length Bc] 25 (0, 0)) (by (with_reducible repeat (first | refine blk_drewN ?_ _ | refine blk_drew ?_ | refine blk_alloc ?_ _)); exact Ah.out) hg (Kd.R_ne Ad.out Ah.out (by decide))); have Bk := Aside0.mk (blk_grown (g := Ae) (o := .cells #[.int .i64 ((rd_T34 Aa Ab).f0), .int .i64 ((rd_T34 Aa Ab).f1), .int .i64 ((rd_T34 Aa Ab).f2), .int .i64 ((rd_T34 Aa Ab).f3), .int .i64 ((rd_T34 Aa Ab).f4), .string Ai, .string Aj, .string (((rd_T34 Aa Ab).f7) ++ (⟨#[95]⟩ : ByteArray)), .string ((rd_T34 Aa Ab).f8), .int .i64 ((rd_T34 Aa Ab).f9)] 34 (0, 0)) (by (with_reducible repeat (first | refine blk_drewN ?_ _ | refine blk_drew ?_ | refine blk_alloc ?_ _)); exact Ac.out) hg (Kd.R_away Ad.out (fun _ hk => hk))); have Bn := Aside0.mk ((by rw [hw]; exact below_set (below_set (below_set (below_set (below_set (below_set (below_set (below_set (below_set (below_set (HB.out) GB97.out) GB97.out) GB97.out) GB97.out) GB97.out) GB97.out) GB97.out) GB97.out) GB97.out) GB97.out : Below w.heap.size w w106)); clear Af Ad Ag Ah Ac HB; have Af := Ba; have Ad := Bb; have Ag := Bg; have Ah := Bi; have Ac := Bk; have HB := Bn; clear Ba Bb Bg Bi Bk Bn; clear hg hw hp_))
                    go_roundg kj58
                    case measure => have := HK1.out; have := HJ20.out; have := HJ44.out; have := HJ52.out; have := HJ58.out; omega
                    case rel => exact ⟨(wrap64 (Ab + 1)), (y360), (.slice (some ⟨go97, 0, none⟩) Aa.length Bc), (by first | rfl | (simp; done) | (simp [*]; done)), H', ⟨by have := HK1.out; have := HJ20.out; have := HJ44.out; have := HJ52.out; have := HJ58.out; omega⟩, ⟨by (with_reducible repeat (first | apply Kd.R_alloc | apply Kd.R_drewN | apply Kd.R_drew)); exact Af.out⟩, ⟨by (with_reducible repeat (first | apply Kd.R_alloc | apply Kd.R_drewN | apply Kd.R_drew)); exact Kd.R_mono Ad.out (fun _ hk => trivial)⟩, ⟨by (with_reducible repeat (first | refine blk_drewN ?_ _ | refine blk_drew ?_ | refine blk_alloc ?_ _)); exact Ag.out⟩, ⟨by (with_reducible repeat (first | refine blk_drewN ?_ _ | refine blk_drew ?_ | refine blk_alloc ?_ _)); exact Ah.out⟩, ⟨by repeat (first | (with_reducible first | exact HB.out | apply below_alloc | apply pw_below_drewN | apply below_drew1 | refine below_set ?_ Am.out | refine below_set ?_ Ap.out | refine below_set ?_ Br.out) | exact HB.out)⟩⟩
                   ·
                    rw [if_neg c96] at H
                    exact absurd H (by simp)
                  ·
                   rw [if_neg c95] at H
                   exact absurd H (by simp)
                 ·
                  rw [if_neg c94] at H
                  have c94b0 : (((rd_T34 Aa Ab).f8).toList == ([] : List UInt8)) = false := beq_eq_false_iff_ne.mpr c94
                  have c94b1 : (((rd_T34 Aa Ab).f8).toList != ([] : List UInt8)) = true := bne_iff_ne.mpr c94
                  have Lo : (((rd_T34 Aa Ab).f8).toList.isEmpty) = false := by simpa using c94
                  try rw [Lo]
                  by_cases c107 : ((rd_T34 Aa Ab).f8).size + 1 ≤ 9223372036854775807
                  ·
                   rw [if_pos c107] at H
                   have c107b0 := eq_true c107
                   have c107b1 : decide (((rd_T34 Aa Ab).f8).size + 1 ≤ 9223372036854775807) = true := decide_eq_true c107
                   try have c107b2 : (9223372036854775807 < ((rd_T34 Aa Ab).f8).size + 1) = False := eq_false (Nat.not_lt.2 c107)
                   by_cases c108 : 0 ≤ Ab
                   ·
                    rw [if_pos c108] at H
                    have c108b0 : decide (0 ≤ Ab) = true := decide_eq_true c108
                    clear c108
                    by_cases c109 : Ab < (Aa.length : Int)
                    ·
                     rw [if_pos c109] at H
                     have c109b0 : decide (Ab < (Aa.length : Int)) = true := decide_eq_true c109
                     clear c109
                     obtain ⟨y361, hy361⟩ : ∃ y_ : List (S34), y_ = (Aa.set (Ab : Int).toNat (⟨((rd_T34 Aa Ab).f0), ((rd_T34 Aa Ab).f1), ((rd_T34 Aa Ab).f2), ((rd_T34 Aa Ab).f3), ((rd_T34 Aa Ab).f4), Ai, Aj, ((rd_T34 Aa Ab).f7) ++ (⟨#[95]⟩ : ByteArray), ((rd_T34 Aa Ab).f8) ++ (⟨#[95]⟩ : ByteArray), ((rd_T34 Aa Ab).f9)⟩ : S34)) := ⟨_, rfl⟩
                     replace H : (trammellaw6_ScopeNames.l0 kj58 (wrap64 (Ab + 1)) l0_0 l0_1 Ao y361) = some r := by first | (rw [hy361]; with_reducible exact H) | (have H2_ := (Option.bind_some _ _).symm.trans H; rw [hy361]; with_reducible exact H2_) | (have H2_ := (Option.bind_some _ _).symm.trans H; with_reducible exact H2_) | with_reducible exact H | (rw [hy361]; exact H) | exact H
                     have Ny361 := Aside0.mk hy361
                     clear hy361
                     have H' := Aside0.mk H
                     clear H
                     have hnb111 := Ay.out
                     have hnc111 := Aq.out
                     have hnb112 := Az.out
                     have hnc112 := Ar.out
                     have hcz113_0 : wc.cell? ⟨Ae, 0, none⟩ = some (.int .i64 ((rd_T34 Aa Ab).f0)) := (blk_cell Ac.out 0).trans rfl
                     have hcz113_1 : wc.cell? ⟨Ae, 1, none⟩ = some (.int .i64 ((rd_T34 Aa Ab).f1)) := (blk_cell Ac.out 1).trans rfl
                     have hcz113_2 : wc.cell? ⟨Ae, 2, none⟩ = some (.int .i64 ((rd_T34 Aa Ab).f2)) := (blk_cell Ac.out 2).trans rfl
                     have hcz113_3 : wc.cell? ⟨Ae, 3, none⟩ = some (.int .i64 ((rd_T34 Aa Ab).f3)) := (blk_cell Ac.out 3).trans rfl
                     have hcz113_4 : wc.cell? ⟨Ae, 4, none⟩ = some (.int .i64 ((rd_T34 Aa Ab).f4)) := (blk_cell Ac.out 4).trans rfl
                     have hcz113_5 : wc.cell? ⟨Ae, 5, none⟩ = some (.string Ai) := (blk_cell Ac.out 5).trans rfl
                     have hcz113_6 : wc.cell? ⟨Ae, 6, none⟩ = some (.string Aj) := (blk_cell Ac.out 6).trans rfl
                     have hcz113_7 : wc.cell? ⟨Ae, 7, none⟩ = some (.string ((rd_T34 Aa Ab).f7)) := (blk_cell Ac.out 7).trans rfl
                     have hcz113_8 : wc.cell? ⟨Ae, 8, none⟩ = some (.string ((rd_T34 Aa Ab).f8)) := (blk_cell Ac.out 8).trans rfl
                     have hcz113_9 : wc.cell? ⟨Ae, 9, none⟩ = some (.int .i64 ((rd_T34 Aa Ab).f9)) := (blk_cell Ac.out 9).trans rfl
                     have hfz113_0 := blk_frozen Ac.out 0
                     have hfz113_1 := blk_frozen Ac.out 1
                     have hfz113_2 := blk_frozen Ac.out 2
                     have hfz113_3 := blk_frozen Ac.out 3
                     have hfz113_4 := blk_frozen Ac.out 4
                     have hfz113_5 := blk_frozen Ac.out 5
                     have hfz113_6 := blk_frozen Ac.out 6
                     have hfz113_7 := blk_frozen Ac.out 7
                     have hfz113_8 := blk_frozen Ac.out 8
                     have hfz113_9 := blk_frozen Ac.out 9
                     go_wp2_with (first | ((with_reducible refine gate_store (t := 9) (p := 84) rfl ?_); refine store_event (t := 9) (p := 84) (v := ?vo_w114) (w1 := (wc.setCell ⟨Ae, 7, none⟩ (.string (((rd_T34 Aa Ab).f7) ++ (⟨#[95]⟩ : ByteArray))))) ?hg ?ho ?hn ?hr ?_; (case ho => rfl); (case hg => rfl); (case hn => rfl); (case hr => first | (go_simp; done) | (go_simp; rfl)); intro w114 hw; have Ba : Aside0 (Kd.R k45 45 w114 w.heap.size (fun _ => True) (.slice Aw Ao.length Av) Ao) := ⟨(by rw [hw]; exact (by (with_reducible repeat (first | apply Kd.R_alloc | apply Kd.R_drewN | apply Kd.R_drew)); exact Kd.R_mono (Kd.R_far (p := ⟨Ae, 7, none⟩) (Kd.R_types Af.out Ac.out (by decide)) (fun _ hk => hk.2) (.string (((rd_T34 Aa Ab).f7) ++ (⟨#[95]⟩ : ByteArray)))) (fun _ hk => trivial)))⟩; have Bb : Aside0 (Kd.R k34 34 w114 w.heap.size (fun k_ => k_ ≠ Ae) (.slice (some Bl) Aa.length Bc) Aa) := ⟨(by rw [hw]; exact (by (with_reducible repeat (first | apply Kd.R_alloc | apply Kd.R_drewN | apply Kd.R_drew)); exact Kd.R_mono (Kd.R_far (p := ⟨Ae, 7, none⟩) (Kd.R_mono Ad.out (fun k_ hk => (⟨hk, hk⟩ : _ ∧ k_ ≠ Ae))) (fun _ hk => hk.2) (.string (((rd_T34 Aa Ab).f7) ++ (⟨#[95]⟩ : ByteArray)))) (fun _ hk => hk.1)))⟩; have Bg : Aside0 (w114.heap[Al]? = some (.cells #[.slice A0_0 l0_0.length c0_0, .slice A0_1 l0_1.length c0_1] 25 (0, 0))) := ⟨(by rw [hw]; exact (by (with_reducible repeat (first | refine blk_drewN ?_ _ | refine blk_drew ?_ | refine blk_alloc ?_ _)); refine blk_far ?_ Aq.out _; (with_reducible repeat (first | refine blk_drewN ?_ _ | refine blk_drew ?_ | refine blk_alloc ?_ _)); exact Ag.out))⟩; have Bi : Aside0 (w114.heap[Ak]? = some (.cells #[.slice Aw Ao.length Av, .slice (some Bl) Aa.length Bc] 25 (0, 0))) := ⟨(by rw [hw]; exact (by (with_reducible repeat (first | refine blk_drewN ?_ _ | refine blk_drew ?_ | refine blk_alloc ?_ _)); refine blk_far ?_ Ar.out _; (with_reducible repeat (first | refine blk_drewN ?_ _ | refine blk_drew ?_ | refine blk_alloc ?_ _)); exact Ah.out))⟩; have Bk : Aside0 (w114.heap[Ae]? = some (.cells #[.int .i64 ((rd_T34 Aa Ab).f0), .int .i64 ((rd_T34 Aa Ab).f1), .int .i64 ((rd_T34 Aa Ab).f2), .int .i64 ((rd_T34 Aa Ab).f3), .int .i64 ((rd_T34 Aa Ab).f4), .string Ai, .string Aj, .string (((rd_T34 Aa Ab).f7) ++ (⟨#[95]⟩ : ByteArray)), .string ((rd_T34 Aa Ab).f8), .int .i64 ((rd_T34 Aa Ab).f9)] 34 (0, 0))) := ⟨(by rw [hw]; exact (by (with_reducible repeat (first | refine blk_drewN ?_ _ | refine blk_drew ?_ | refine blk_alloc ?_ _)); refine blk_put (cs := #[.int .i64 ((rd_T34 Aa Ab).f0), .int .i64 ((rd_T34 Aa Ab).f1), .int .i64 ((rd_T34 Aa Ab).f2), .int .i64 ((rd_T34 Aa Ab).f3), .int .i64 ((rd_T34 Aa Ab).f4), .string Ai, .string Aj, .string ((rd_T34 Aa Ab).f7), .string ((rd_T34 Aa Ab).f8), .int .i64 ((rd_T34 Aa Ab).f9)]) ?_ 7 _ rfl; (with_reducible repeat (first | refine blk_drewN ?_ _ | refine blk_drew ?_ | refine blk_alloc ?_ _)); exact Ac.out))⟩; have Bn : Aside0 (Below w.heap.size w w114) := ⟨(by rw [hw]; exact (by repeat (first | (with_reducible first | exact HB.out | apply below_alloc | apply pw_below_drewN | apply below_drew1 | refine below_set ?_ Am.out | refine below_set ?_ Ap.out | refine below_set ?_ Br.out) | exact HB.out)))⟩; clear hw Af Ad Ag Ah Ac HB; have Af := Ba; have Ad := Bb; have Ag := Bg; have Ah := Bi; have Ac := Bk; have HB := Bn; clear Ba Bb Bg Bi Bk Bn; have hcz115_0 : w114.cell? ⟨Ae, 0, none⟩ = some (.int .i64 ((rd_T34 Aa Ab).f0)) := (blk_cell Ac.out 0).trans rfl; have hcz115_1 : w114.cell? ⟨Ae, 1, none⟩ = some (.int .i64 ((rd_T34 Aa Ab).f1)) := (blk_cell Ac.out 1).trans rfl; have hcz115_2 : w114.cell? ⟨Ae, 2, none⟩ = some (.int .i64 ((rd_T34 Aa Ab).f2)) := (blk_cell Ac.out 2).trans rfl; have hcz115_3 : w114.cell? ⟨Ae, 3, none⟩ = some (.int .i64 ((rd_T34 Aa Ab).f3)) := (blk_cell Ac.out 3).trans rfl; have hcz115_4 : w114.cell? ⟨Ae, 4, none⟩ = some (.int .i64 ((rd_T34 Aa Ab).f4)) := (blk_cell Ac.out 4).trans rfl; have hcz115_5 : w114.cell? ⟨Ae, 5, none⟩ = some (.string Ai) := (blk_cell Ac.out 5).trans rfl; have hcz115_6 : w114.cell? ⟨Ae, 6, none⟩ = some (.string Aj) := (blk_cell Ac.out 6).trans rfl; have hcz115_7 : w114.cell? ⟨Ae, 7, none⟩ = some (.string (((rd_T34 Aa Ab).f7) ++ (⟨#[95]⟩ : ByteArray))) := (blk_cell Ac.out 7).trans rfl; have hcz115_8 : w114.cell? ⟨Ae, 8, none⟩ = some (.string ((rd_T34 Aa Ab).f8)) := (blk_cell Ac.out 8).trans rfl; have hcz115_9 : w114.cell? ⟨Ae, 9, none⟩ = some (.int .i64 ((rd_T34 Aa Ab).f9)) := (blk_cell Ac.out 9).trans rfl; have hfz115_0 := blk_frozen Ac.out 0; have hfz115_1 := blk_frozen Ac.out 1; have hfz115_2 := blk_frozen Ac.out 2; have hfz115_3 := blk_frozen Ac.out 3; have hfz115_4 := blk_frozen Ac.out 4; have hfz115_5 := blk_frozen Ac.out 5; have hfz115_6 := blk_frozen Ac.out 6; have hfz115_7 := blk_frozen Ac.out 7; have hfz115_8 := blk_frozen Ac.out 8; have hfz115_9 := blk_frozen Ac.out 9) | ((with_reducible refine gate_store (t := 9) (p := 91) rfl ?_); refine store_event (t := 9) (p := 91) (v := ?vo_w116) (w1 := (w114.setCell ⟨Ae, 8, none⟩ (.string (((rd_T34 Aa Ab).f8) ++ (⟨#[95]⟩ : ByteArray))))) ?hg ?ho ?hn ?hr ?_; (case ho => rfl); (case hg => rfl); (case hn => rfl); (case hr => first | (go_simp; done) | (go_simp; rfl)); intro w116 hw; have Ba : Aside0 (Kd.R k45 45 w116 w.heap.size (fun _ => True) (.slice Aw Ao.length Av) Ao) := ⟨(by rw [hw]; exact (by (with_reducible repeat (first | apply Kd.R_alloc | apply Kd.R_drewN | apply Kd.R_drew)); exact Kd.R_mono (Kd.R_far (p := ⟨Ae, 8, none⟩) (Kd.R_types Af.out Ac.out (by decide)) (fun _ hk => hk.2) (.string (((rd_T34 Aa Ab).f8) ++ (⟨#[95]⟩ : ByteArray)))) (fun _ hk => trivial)))⟩; have Bb : Aside0 (Kd.R k34 34 w116 w.heap.size (fun k_ => k_ ≠ Ae) (.slice (some Bl) Aa.length Bc) Aa) := ⟨(by rw [hw]; exact (by (with_reducible repeat (first | apply Kd.R_alloc | apply Kd.R_drewN | apply Kd.R_drew)); exact Kd.R_mono (Kd.R_far (p := ⟨Ae, 8, none⟩) (Kd.R_mono Ad.out (fun k_ hk => (⟨hk, hk⟩ : _ ∧ k_ ≠ Ae))) (fun _ hk => hk.2) (.string (((rd_T34 Aa Ab).f8) ++ (⟨#[95]⟩ : ByteArray)))) (fun _ hk => hk.1)))⟩; have Bg : Aside0 (w116.heap[Al]? = some (.cells #[.slice A0_0 l0_0.length c0_0, .slice A0_1 l0_1.length c0_1] 25 (0, 0))) := ⟨(by rw [hw]; exact (by (with_reducible repeat (first | refine blk_drewN ?_ _ | refine blk_drew ?_ | refine blk_alloc ?_ _)); refine blk_far ?_ Aq.out _; (with_reducible repeat (first | refine blk_drewN ?_ _ | refine blk_drew ?_ | refine blk_alloc ?_ _)); exact Ag.out))⟩; have Bi : Aside0 (w116.heap[Ak]? = some (.cells #[.slice Aw Ao.length Av, .slice (some Bl) Aa.length Bc] 25 (0, 0))) := ⟨(by rw [hw]; exact (by (with_reducible repeat (first | refine blk_drewN ?_ _ | refine blk_drew ?_ | refine blk_alloc ?_ _)); refine blk_far ?_ Ar.out _; (with_reducible repeat (first | refine blk_drewN ?_ _ | refine blk_drew ?_ | refine blk_alloc ?_ _)); exact Ah.out))⟩; have Bk : Aside0 (w116.heap[Ae]? = some (.cells #[.int .i64 ((rd_T34 Aa Ab).f0), .int .i64 ((rd_T34 Aa Ab).f1), .int .i64 ((rd_T34 Aa Ab).f2), .int .i64 ((rd_T34 Aa Ab).f3), .int .i64 ((rd_T34 Aa Ab).f4), .string Ai, .string Aj, .string (((rd_T34 Aa Ab).f7) ++ (⟨#[95]⟩ : ByteArray)), .string (((rd_T34 Aa Ab).f8) ++ (⟨#[95]⟩ : ByteArray)), .int .i64 ((rd_T34 Aa Ab).f9)] 34 (0, 0))) := ⟨(by rw [hw]; exact (by (with_reducible repeat (first | refine blk_drewN ?_ _ | refine blk_drew ?_ | refine blk_alloc ?_ _)); refine blk_put (cs := #[.int .i64 ((rd_T34 Aa Ab).f0), .int .i64 ((rd_T34 Aa Ab).f1), .int .i64 ((rd_T34 Aa Ab).f2), .int .i64 ((rd_T34 Aa Ab).f3), .int .i64 ((rd_T34 Aa Ab).f4), .string Ai, .string Aj, .string (((rd_T34 Aa Ab).f7) ++ (⟨#[95]⟩ : ByteArray)), .string ((rd_T34 Aa Ab).f8), .int .i64 ((rd_T34 Aa Ab).f9)]) ?_ 8 _ rfl; (with_reducible repeat (first | refine blk_drewN ?_ _ | refine blk_drew ?_ | refine blk_alloc ?_ _)); exact Ac.out))⟩; have Bn : Aside0 (Below w.heap.size w w116) := ⟨(by rw [hw]; exact (by repeat (first | (with_reducible first | exact HB.out | apply below_alloc | apply pw_below_drewN | apply below_drew1 | refine below_set ?_ Am.out | refine below_set ?_ Ap.out | refine below_set ?_ Br.out) | exact HB.out)))⟩; clear hw Af Ad Ag Ah Ac HB; have Af := Ba; have Ad := Bb; have Ag := Bg; have Ah := Bi; have Ac := Bk; have HB := Bn; clear Ba Bb Bg Bi Bk Bn; have hnb117 := Ax.out; have hnc117 := At.out; have hcz118_0 : w116.cell? ⟨Ak, 0, none⟩ = some (.slice Aw Ao.length Av) := (blk_cell Ah.out 0).trans rfl; have hcz118_1 : w116.cell? ⟨Ak, 1, none⟩ = some (.slice (some Bl) Aa.length Bc) := (blk_cell Ah.out 1).trans rfl; have hfz118_0 := blk_frozen Ah.out 0; have hfz118_1 := blk_frozen Ah.out 1; have hcz119_0 : w116.cell? ⟨Ae, 0, none⟩ = some (.int .i64 ((rd_T34 Aa Ab).f0)) := (blk_cell Ac.out 0).trans rfl; have hcz119_1 : w116.cell? ⟨Ae, 1, none⟩ = some (.int .i64 ((rd_T34 Aa Ab).f1)) := (blk_cell Ac.out 1).trans rfl; have hcz119_2 : w116.cell? ⟨Ae, 2, none⟩ = some (.int .i64 ((rd_T34 Aa Ab).f2)) := (blk_cell Ac.out 2).trans rfl; have hcz119_3 : w116.cell? ⟨Ae, 3, none⟩ = some (.int .i64 ((rd_T34 Aa Ab).f3)) := (blk_cell Ac.out 3).trans rfl; have hcz119_4 : w116.cell? ⟨Ae, 4, none⟩ = some (.int .i64 ((rd_T34 Aa Ab).f4)) := (blk_cell Ac.out 4).trans rfl; have hcz119_5 : w116.cell? ⟨Ae, 5, none⟩ = some (.string Ai) := (blk_cell Ac.out 5).trans rfl; have hcz119_6 : w116.cell? ⟨Ae, 6, none⟩ = some (.string Aj) := (blk_cell Ac.out 6).trans rfl; have hcz119_7 : w116.cell? ⟨Ae, 7, none⟩ = some (.string (((rd_T34 Aa Ab).f7) ++ (⟨#[95]⟩ : ByteArray))) := (blk_cell Ac.out 7).trans rfl; have hcz119_8 : w116.cell? ⟨Ae, 8, none⟩ = some (.string (((rd_T34 Aa Ab).f8) ++ (⟨#[95]⟩ : ByteArray))) := (blk_cell Ac.out 8).trans rfl; have hcz119_9 : w116.cell? ⟨Ae, 9, none⟩ = some (.int .i64 ((rd_T34 Aa Ab).f9)) := (blk_cell Ac.out 9).trans rfl; have hfz119_0 := blk_frozen Ac.out 0; have hfz119_1 := blk_frozen Ac.out 1; have hfz119_2 := blk_frozen Ac.out 2; have hfz119_3 := blk_frozen Ac.out 3; have hfz119_4 := blk_frozen Ac.out 4; have hfz119_5 := blk_frozen Ac.out 5; have hfz119_6 := blk_frozen Ac.out 6; have hfz119_7 := blk_frozen Ac.out 7; have hfz119_8 := blk_frozen Ac.out 8; have hfz119_9 := blk_frozen Ac.out 9; have p110 : 0 ≤ (Ab : Int) := of_decide_eq_true (by first | (with_reducible assumption) | assumption); have q110 : (Ab : Int) < ((Aa.length : Int) : Int) := of_decide_eq_true (by first | (with_reducible assumption) | assumption); obtain ⟨go110, co110, eo110, gb110, gl110, cl110, HG110⟩ := Kd.R_form Ad.out (by omega); (first | cases eo110 | (injection eo110 with ea_ en_ ec_; (first | subst ea_ | (injection ea_ with ea_; subst ea_)); subst ec_; clear en_)); have GB110 := Aside0.mk gb110; have GG110 := Aside0.mk HG110; clear gb110 gl110 HG110; obtain ⟨ce110, hcl110, hM110, hcc110, hfr110⟩ := Kd.R_elem Ad.out z34 (Ab : Int) p110 q110; obtain rfl := k34_openM hM110; have hx110_0 : w116.cell? ⟨go110, (Ab : Int).toNat * 10, none⟩ = some (.int .i64 ((rd_T34 Aa Ab).f0)) := hcc110 0 _ rfl; have hx110_1 : w116.cell? ⟨go110, (Ab : Int).toNat * 10 + 1, none⟩ = some (.int .i64 ((rd_T34 Aa Ab).f1)) := hcc110 1 _ rfl; have hx110_2 : w116.cell? ⟨go110, (Ab : Int).toNat * 10 + 2, none⟩ = some (.int .i64 ((rd_T34 Aa Ab).f2)) := hcc110 2 _ rfl; have hx110_3 : w116.cell? ⟨go110, (Ab : Int).toNat * 10 + 3, none⟩ = some (.int .i64 ((rd_T34 Aa Ab).f3)) := hcc110 3 _ rfl; have hx110_4 : w116.cell? ⟨go110, (Ab : Int).toNat * 10 + 4, none⟩ = some (.int .i64 ((rd_T34 Aa Ab).f4)) := hcc110 4 _ rfl; have hx110_5 : w116.cell? ⟨go110, (Ab : Int).toNat * 10 + 5, none⟩ = some (.string ((rd_T34 Aa Ab).f5)) := hcc110 5 _ rfl; have hx110_6 : w116.cell? ⟨go110, (Ab : Int).toNat * 10 + 6, none⟩ = some (.string ((rd_T34 Aa Ab).f6)) := hcc110 6 _ rfl; have hx110_7 : w116.cell? ⟨go110, (Ab : Int).toNat * 10 + 7, none⟩ = some (.string ((rd_T34 Aa Ab).f7)) := hcc110 7 _ rfl; have hx110_8 : w116.cell? ⟨go110, (Ab : Int).toNat * 10 + 8, none⟩ = some (.string ((rd_T34 Aa Ab).f8)) := hcc110 8 _ rfl; have hx110_9 : w116.cell? ⟨go110, (Ab : Int).toNat * 10 + 9, none⟩ = some (.int .i64 ((rd_T34 Aa Ab).f9)) := hcc110 9 _ rfl; have hf110_0 : w116.frozen? ⟨go110, (Ab : Int).toNat * 10, none⟩ = false := hfr110 0; have hf110_1 : w116.frozen? ⟨go110, (Ab : Int).toNat * 10 + 1, none⟩ = false := hfr110 1; have hf110_2 : w116.frozen? ⟨go110, (Ab : Int).toNat * 10 + 2, none⟩ = false := hfr110 2; have hf110_3 : w116.frozen? ⟨go110, (Ab : Int).toNat * 10 + 3, none⟩ = false := hfr110 3; have hf110_4 : w116.frozen? ⟨go110, (Ab : Int).toNat * 10 + 4, none⟩ = false := hfr110 4; have hf110_5 : w116.frozen? ⟨go110, (Ab : Int).toNat * 10 + 5, none⟩ = false := hfr110 5; have hf110_6 : w116.frozen? ⟨go110, (Ab : Int).toNat * 10 + 6, none⟩ = false := hfr110 6; have hf110_7 : w116.frozen? ⟨go110, (Ab : Int).toNat * 10 + 7, none⟩ = false := hfr110 7; have hf110_8 : w116.frozen? ⟨go110, (Ab : Int).toNat * 10 + 8, none⟩ = false := hfr110 8; have hf110_9 : w116.frozen? ⟨go110, (Ab : Int).toNat * 10 + 9, none⟩ = false := hfr110 9; clear hcl110 hcc110 hfr110 hM110; replace p110 := eq_true p110; replace q110 := eq_true q110; have HX120 := Aside0.mk (show Kd.R k34 34 w116 w.heap.size (fun k_ => k_ ≠ Ae) (.slice (some ⟨go110, 0, none⟩) Aa.length Bc) Aa from (by (with_reducible repeat (first | apply Kd.R_alloc | apply Kd.R_drewN | apply Kd.R_drew)); exact Ad.out)); obtain ⟨ce120, hcl120, hM120, hcc120, hfr120⟩ := Kd.R_elem HX120.out z34 (Ab : Int) (of_decide_eq_true (by first | (with_reducible assumption) | assumption)) (by have h_ : (Ab : Int) < ((Aa.length : Int) : Int) := of_decide_eq_true (by first | (with_reducible assumption) | assumption); first | exact h_ | (have e_ := (Kd.R_reads' Ad.out).1; omega) | simpa using h_); obtain rfl := k34_openM hM120; have HP120 := Kd.R_seg HX120.out (Ab : Int) (of_decide_eq_true (by first | (with_reducible assumption) | assumption)) (by have h_ : (Ab : Int) < ((Aa.length : Int) : Int) := of_decide_eq_true (by first | (with_reducible assumption) | assumption); first | exact h_ | (have e_ := (Kd.R_reads' Ad.out).1; omega) | simpa using h_) (seg := [.int .i64 ((rd_T34 Aa Ab).f0), .int .i64 ((rd_T34 Aa Ab).f1), .int .i64 ((rd_T34 Aa Ab).f2), .int .i64 ((rd_T34 Aa Ab).f3), .int .i64 ((rd_T34 Aa Ab).f4), .string Ai, .string Aj, .string (((rd_T34 Aa Ab).f7) ++ (⟨#[95]⟩ : ByteArray)), .string (((rd_T34 Aa Ab).f8) ++ (⟨#[95]⟩ : ByteArray)), .int .i64 ((rd_T34 Aa Ab).f9)]) (j := 0) hcl120 hcc120 (show 10 ≤ 10 from by decide) (x' := (⟨((rd_T34 Aa Ab).f0), ((rd_T34 Aa Ab).f1), ((rd_T34 Aa Ab).f2), ((rd_T34 Aa Ab).f3), ((rd_T34 Aa Ab).f4), Ai, Aj, ((rd_T34 Aa Ab).f7) ++ (⟨#[95]⟩ : ByteArray), ((rd_T34 Aa Ab).f8) ++ (⟨#[95]⟩ : ByteArray), ((rd_T34 Aa Ab).f9)⟩ : S34)) (k34_mkM _ _ _ (⟨((rd_T34 Aa Ab).f0), ((rd_T34 Aa Ab).f1), ((rd_T34 Aa Ab).f2), ((rd_T34 Aa Ab).f3), ((rd_T34 Aa Ab).f4), Ai, Aj, ((rd_T34 Aa Ab).f7) ++ (⟨#[95]⟩ : ByteArray), ((rd_T34 Aa Ab).f8) ++ (⟨#[95]⟩ : ByteArray), ((rd_T34 Aa Ab).f9)⟩ : S34) ) (fun _ hk => hk); have hx120_0 := hcc120 0 _ rfl; (try simp only [show (k34).sz = 10 from rfl, Nat.mul_one, Nat.add_zero] at hx120_0); have hf120_0 := hfr120 0; (try simp only [show (k34).sz = 10 from rfl, Nat.mul_one, Nat.add_zero] at hf120_0); have hx120_1 := hcc120 1 _ rfl; (try simp only [show (k34).sz = 10 from rfl, Nat.mul_one, Nat.add_zero] at hx120_1); have hf120_1 := hfr120 1; (try simp only [show (k34).sz = 10 from rfl, Nat.mul_one, Nat.add_zero] at hf120_1); have hx120_2 := hcc120 2 _ rfl; (try simp only [show (k34).sz = 10 from rfl, Nat.mul_one, Nat.add_zero] at hx120_2); have hf120_2 := hfr120 2; (try simp only [show (k34).sz = 10 from rfl, Nat.mul_one, Nat.add_zero] at hf120_2); have hx120_3 := hcc120 3 _ rfl; (try simp only [show (k34).sz = 10 from rfl, Nat.mul_one, Nat.add_zero] at hx120_3); have hf120_3 := hfr120 3; (try simp only [show (k34).sz = 10 from rfl, Nat.mul_one, Nat.add_zero] at hf120_3); have hx120_4 := hcc120 4 _ rfl; (try simp only [show (k34).sz = 10 from rfl, Nat.mul_one, Nat.add_zero] at hx120_4); have hf120_4 := hfr120 4; (try simp only [show (k34).sz = 10 from rfl, Nat.mul_one, Nat.add_zero] at hf120_4); have hx120_5 := hcc120 5 _ rfl; (try simp only [show (k34).sz = 10 from rfl, Nat.mul_one, Nat.add_zero] at hx120_5); have hf120_5 := hfr120 5; (try simp only [show (k34).sz = 10 from rfl, Nat.mul_one, Nat.add_zero] at hf120_5); have hx120_6 := hcc120 6 _ rfl; (try simp only [show (k34).sz = 10 from rfl, Nat.mul_one, Nat.add_zero] at hx120_6); have hf120_6 := hfr120 6; (try simp only [show (k34).sz = 10 from rfl, Nat.mul_one, Nat.add_zero] at hf120_6); have hx120_7 := hcc120 7 _ rfl; (try simp only [show (k34).sz = 10 from rfl, Nat.mul_one, Nat.add_zero] at hx120_7); have hf120_7 := hfr120 7; (try simp only [show (k34).sz = 10 from rfl, Nat.mul_one, Nat.add_zero] at hf120_7); have hx120_8 := hcc120 8 _ rfl; (try simp only [show (k34).sz = 10 from rfl, Nat.mul_one, Nat.add_zero] at hx120_8); have hf120_8 := hfr120 8; (try simp only [show (k34).sz = 10 from rfl, Nat.mul_one, Nat.add_zero] at hf120_8); have hx120_9 := hcc120 9 _ rfl; (try simp only [show (k34).sz = 10 from rfl, Nat.mul_one, Nat.add_zero] at hx120_9); have hf120_9 := hfr120 9; (try simp only [show (k34).sz = 10 from rfl, Nat.mul_one, Nat.add_zero] at hf120_9); clear hcl120 hcc120 hfr120 hM120) | ((with_reducible refine gate_store (t := 34) (p := 96) rfl ?_); refine store_event (t := 34) (p := 96) (v := ?vo_w121) (w1 := ((((((((((w116.setCell ⟨go110, (Ab : Int).toNat * 10, none⟩ (.int .i64 ((rd_T34 Aa Ab).f0))).setCell ⟨go110, (Ab : Int).toNat * 10 + 1, none⟩ (.int .i64 ((rd_T34 Aa Ab).f1))).setCell ⟨go110, (Ab : Int).toNat * 10 + 2, none⟩ (.int .i64 ((rd_T34 Aa Ab).f2))).setCell ⟨go110, (Ab : Int).toNat * 10 + 3, none⟩ (.int .i64 ((rd_T34 Aa Ab).f3))).setCell ⟨go110, (Ab : Int).toNat * 10 + 4, none⟩ (.int .i64 ((rd_T34 Aa Ab).f4))).setCell ⟨go110, (Ab : Int).toNat * 10 + 5, none⟩ (.string Ai)).setCell ⟨go110, (Ab : Int).toNat * 10 + 6, none⟩ (.string Aj)).setCell ⟨go110, (Ab : Int).toNat * 10 + 7, none⟩ (.string (((rd_T34 Aa Ab).f7) ++ (⟨#[95]⟩ : ByteArray)))).setCell ⟨go110, (Ab : Int).toNat * 10 + 8, none⟩ (.string (((rd_T34 Aa Ab).f8) ++ (⟨#[95]⟩ : ByteArray)))).setCell ⟨go110, (Ab : Int).toNat * 10 + 9, none⟩ (.int .i64 ((rd_T34 Aa Ab).f9)))) ?hg ?ho ?hn ?hr ?_; (case ho => rfl); (case hg => rfl); (case hn => rfl); (case hr => first | (go_simp; done) | (go_simp; rfl)); intro w121 hw; have hg : w116.grownBy w121 (some go110) := (by rw [hw]; exact HP120.2); have hp_ : Kd.R k34 34 w121 w.heap.size (fun k_ => k_ ≠ Ae) (.slice (some ⟨go110, 0, none⟩) Aa.length Bc) y361 := (by rw [hw, Ny361.out]; exact HP120.1); clear HP120; have Ba := Aside0.mk (Kd.R_over' (v := (.slice (some ⟨go110, 0, none⟩) Aa.length Bc)) (by (with_reducible repeat (first | apply Kd.R_alloc | apply Kd.R_drewN | apply Kd.R_drew)); exact Af.out) (Kd.R_typed Ad.out) (by decide) hg); have Bb := Aside0.mk (hp_); have Bg := Aside0.mk (blk_grown (g := Al) (o := .cells #[.slice A0_0 l0_0.length c0_0, .slice A0_1 l0_1.length c0_1] 25 (0, 0)) (by (with_reducible repeat (first | refine blk_drewN ?_ _ | refine blk_drew ?_ | refine blk_alloc ?_ _)); exact Ag.out) hg (Kd.R_ne Ad.out Ag.out (by decide))); have Bi := Aside0.mk (blk_grown (g := Ak) (o := .cells #[.slice Aw Ao.length Av, .slice (some ⟨go110, 0, none⟩) Aa.length Bc] 25 (0, 0)) (by (with_reducible repeat (first | refine blk_drewN ?_ _ | refine blk_drew ?_ | refine blk_alloc ?_ _)); exact Ah.out) hg (Kd.R_ne Ad.out Ah.out (by decide))); have Bk := Aside0.mk (blk_grown (g := Ae) (o := .cells #[.int .i64 ((rd_T34 Aa Ab).f0), .int .i64 ((rd_T34 Aa Ab).f1), .int .i64 ((rd_T34 Aa Ab).f2), .int .i64 ((rd_T34 Aa Ab).f3), .int .i64 ((rd_T34 Aa Ab).f4), .string Ai, .string Aj, .string (((rd_T34 Aa Ab).f7) ++ (⟨#[95]⟩ : ByteArray)), .string (((rd_T34 Aa Ab).f8) ++ (⟨#[95]⟩ : ByteArray)), .int .i64 ((rd_T34 Aa Ab).f9)] 34 (0, 0)) (by (with_reducible repeat (first | refine blk_drewN ?_ _ | refine blk_drew ?_ | refine blk_alloc ?_ _)); exact Ac.out) hg (Kd.R_away Ad.out (fun _ hk => hk))); have Bn := Aside0.mk ((by rw [hw]; exact below_set (below_set (below_set (below_set (below_set (below_set (below_set (below_set (below_set (below_set (HB.out) GB110.out) GB110.out) GB110.out) GB110.out) GB110.out) GB110.out) GB110.out) GB110.out) GB110.out) GB110.out : Below w.heap.size w w121)); clear Af Ad Ag Ah Ac HB; have Af := Ba; have Ad := Bb; have Ag := Bg; have Ah := Bi; have Ac := Bk; have HB := Bn; clear Ba Bb Bg Bi Bk Bn; clear hg hw hp_))
                     go_roundg kj58
                     case measure => have := HK1.out; have := HJ20.out; have := HJ44.out; have := HJ52.out; have := HJ58.out; omega
                     case rel => exact ⟨(wrap64 (Ab + 1)), (y361), (.slice (some ⟨go110, 0, none⟩) Aa.length Bc), (by first | rfl | (simp; done) | (simp [*]; done)), H', ⟨by have := HK1.out; have := HJ20.out; have := HJ44.out; have := HJ52.out; have := HJ58.out; omega⟩, ⟨by (with_reducible repeat (first | apply Kd.R_alloc | apply Kd.R_drewN | apply Kd.R_drew)); exact Af.out⟩, ⟨by (with_reducible repeat (first | apply Kd.R_alloc | apply Kd.R_drewN | apply Kd.R_drew)); exact Kd.R_mono Ad.out (fun _ hk => trivial)⟩, ⟨by (with_reducible repeat (first | refine blk_drewN ?_ _ | refine blk_drew ?_ | refine blk_alloc ?_ _)); exact Ag.out⟩, ⟨by (with_reducible repeat (first | refine blk_drewN ?_ _ | refine blk_drew ?_ | refine blk_alloc ?_ _)); exact Ah.out⟩, ⟨by repeat (first | (with_reducible first | exact HB.out | apply below_alloc | apply pw_below_drewN | apply below_drew1 | refine below_set ?_ Am.out | refine below_set ?_ Ap.out | refine below_set ?_ Br.out) | exact HB.out)⟩⟩
                    ·
                     rw [if_neg c109] at H
                     exact absurd H (by simp)
                   ·
                    rw [if_neg c108] at H
                    exact absurd H (by simp)
                  ·
                   rw [if_neg c107] at H
                   exact absurd H (by simp)
                ·
                 rw [if_neg c93] at H
                 exact absurd H (by simp)
     ·
      rw [if_neg c20] at H
      exact absurd H (by simp)
    ·
     rw [if_neg c19] at H
     have Kc : decide (Ab < (Aa.length : Int)) = false := decide_eq_false c19
     clear c19
     replace H := Option.bind_eq_some_iff.mp H
     obtain ⟨⟨Bd, Bh, De, Cv⟩, A1220, H⟩ := H
     replace H : ((scope_Resolve.f k1 Ao Aa).bind fun bt371 => ((trammellaw0_Num.f Cv).bind fun Df => (if Df = 600 then (some true) else ((trammellaw0_SameProgram.f k1 Bd Bh bt371.1 bt371.2.1).bind fun Kg => (if Kg = true then (if De = bt371.2.2.1 then ((trammellaw0_Num.f Cv).bind fun Cx => ((trammellaw0_Num.f bt371.2.2.2).bind fun Cw => (some (Cx == Cw)))) else (some false)) else (some false)))))) = some r := H
     have A122 := Aside0.mk A1220
     clear A1220
     replace H := Option.bind_eq_some_iff.mp H
     obtain ⟨⟨Ch, Cm, Hi, Kh⟩, A1230, H⟩ := H
     replace H : ((trammellaw0_Num.f Cv).bind fun Df => (if Df = 600 then (some true) else ((trammellaw0_SameProgram.f k1 Bd Bh Ch Cm).bind fun Kg => (if Kg = true then (if De = Hi then ((trammellaw0_Num.f Cv).bind fun Cx => ((trammellaw0_Num.f Kh).bind fun Cw => (some (Cx == Cw)))) else (some false)) else (some false))))) = some r := H
     have A123 := Aside0.mk A1230
     clear A1230
     replace H := Option.bind_eq_some_iff.mp H
     obtain ⟨Df, A1240, H⟩ := H
     replace H : (if Df = 600 then (some true) else ((trammellaw0_SameProgram.f k1 Bd Bh Ch Cm).bind fun Kg => (if Kg = true then (if De = Hi then ((trammellaw0_Num.f Cv).bind fun Cx => ((trammellaw0_Num.f Kh).bind fun Cw => (some (Cx == Cw)))) else (some false)) else (some false)))) = some r := H
     have A124 := Aside0.mk A1240
     clear A1240
     by_cases c125 : Df = 600
     ·
      rw [if_pos c125] at H
      have c125b0 : (Df == 600) = true := beq_iff_eq.mpr c125
      have c125b1 : (Df != 600) = false := bne_eq_false_iff_eq.mpr c125
      clear c125
      obtain rfl := Option.some.inj H
      have hnb126 := Ax.out
      have hnc126 := At.out
      have hcz127_0 : wr.cell? ⟨Ak, 0, none⟩ = some (.slice Aw Ao.length Av) := (blk_cell Ah.out 0).trans rfl
      have hcz127_1 : wr.cell? ⟨Ak, 1, none⟩ = some (u356001) := (blk_cell Ah.out 1).trans rfl
      have hfz127_0 := blk_frozen Ah.out 0
      have hfz127_1 := blk_frozen Ah.out 1
      obtain ⟨Cs, Cn, eo128⟩ := Kd.R_slice Ad.out
      subst eo128
      have hcz129_0 : wr.cell? ⟨Al, 0, none⟩ = some (.slice A0_0 l0_0.length c0_0) := (blk_cell Ag.out 0).trans rfl
      have hcz129_1 : wr.cell? ⟨Al, 1, none⟩ = some (.slice A0_1 l0_1.length c0_1) := (blk_cell Ag.out 1).trans rfl
      have hfz129_0 := blk_frozen Ag.out 0
      have hfz129_1 := blk_frozen Ag.out 1
      go_wp2_with (first | ((with_reducible refine gate_callee (f := 8) rfl ?_); refine goesL_ (some 99) rfl rfl Tryd.func8 (by kernel_rfl) rfl #[.agg #[.slice A0_0 l0_0.length c0_0, .slice A0_1 l0_1.length c0_1]] rfl (by (try simp only [List.map_toArray, List.map_cons, List.map_nil]); first | done | rfl | (simp only [List.length_drop, List.length_take]; rfl)) ?_; (with_reducible refine (scope_Resolve.calls k1 _ _ l0_0 _ _ l0_1 Bd Bh De Cv _ ?side1 ?side2 ?side3 ?side4 A122.out (HG.out.below HG.out.lt (by repeat (first | (with_reducible first | exact HB.out | apply below_alloc | apply pw_below_drewN | apply below_drew1 | refine below_set ?_ (Aside0.out (by assumption))) | exact HB.out)))).mono ?_); (case side1 => repeat (first | exact (Kd.C_below Kj.out HB.out) | (with_reducible refine Kd.C_alloc ?_ _) | (with_reducible refine Kd.C_drewN ?_ _) | (with_reducible refine Kd.C_drew ?_))); (case side2 => exact Kk.out); (case side3 => repeat (first | exact (Kd.C_below Ka.out HB.out) | (with_reducible refine Kd.C_alloc ?_ _) | (with_reducible refine Kd.C_drewN ?_ _) | (with_reducible refine Kd.C_drew ?_))); (case side4 => exact Kb.out); rintro e w130 ⟨v363, v366, rfl, ho0, ho1, hb⟩; refine ⟨_, rfl, ?_⟩; have Ba := Aside0.mk (Kd.R_elder' (by (with_reducible repeat (first | apply Kd.R_alloc | apply Kd.R_drewN | apply Kd.R_drew)); exact Af.out) (Kd.R_base ho0) hb); have Bb := Aside0.mk (Kd.R_elder' (by (with_reducible repeat (first | apply Kd.R_alloc | apply Kd.R_drewN | apply Kd.R_drew)); exact Ad.out) (Kd.R_base ho1) hb); have Bg := Aside0.mk (Kd.R_lower (Kd.R_new' ho0 (Kd.R_lt (by (with_reducible repeat (first | apply Kd.R_alloc | apply Kd.R_drewN | apply Kd.R_drew)); exact Af.out))) (below_size (by repeat (first | (with_reducible first | exact HB.out | apply below_alloc | apply pw_below_drewN | apply below_drew1 | refine below_set ?_ Am.out | refine below_set ?_ Ap.out) | exact HB.out)))); have Bi := Aside0.mk (Kd.R_lower (Kd.R_new' ho1 (Kd.R_lt (by (with_reducible repeat (first | apply Kd.R_alloc | apply Kd.R_drewN | apply Kd.R_drew)); exact Ad.out))) (below_size (by repeat (first | (with_reducible first | exact HB.out | apply below_alloc | apply pw_below_drewN | apply below_drew1 | refine below_set ?_ Am.out | refine below_set ?_ Ap.out) | exact HB.out)))); have Bk := Aside0.mk (blk_below (g := Al) (o := .cells #[.slice A0_0 l0_0.length c0_0, .slice A0_1 l0_1.length c0_1] 25 (0, 0)) (by (with_reducible repeat (first | refine blk_drewN ?_ _ | refine blk_drew ?_ | refine blk_alloc ?_ _)); exact Ag.out) hb); have Bn := Aside0.mk (blk_below (g := Ak) (o := .cells #[.slice Aw Ao.length Av, .slice Cs Aa.length Cn] 25 (0, 0)) (by (with_reducible repeat (first | refine blk_drewN ?_ _ | refine blk_drew ?_ | refine blk_alloc ?_ _)); exact Ah.out) hb); have Cg := Aside0.mk (below_step (by repeat (first | (with_reducible first | exact HB.out | apply below_alloc | apply pw_below_drewN | apply below_drew1 | refine below_set ?_ Am.out | refine below_set ?_ Ap.out) | exact HB.out)) hb); clear Af Ad Ag Ah HB; have Af := Ba; have Ad := Bb; have Be := Bg; have Bf := Bi; have Ag := Bk; have Ah := Bn; have HB := Cg; clear Ba Bb Bg Bi Bk Bn Cg; (try clear hb); (try clear hb2); (try clear hk); (try clear hi); (try clear ho0); (try clear ho1)) | ((with_reducible refine gate_dst (N := 6) rfl ?_); (try (refine gate_guard (by rfl) ?_; dsimp only)); refine box_event ?hg (N := 6) ?hd (cs := #[.slice none 0 0, .slice none 0 0]) (t := 25) ?hr ?_; (case hd => rfl); (case hg => rfl); (case hr => first | (go_simp; done) | (go_simp; rfl)); intro An hg w131 hbox hb; have Ba := Aside0.mk (Kd.R_below (by (with_reducible repeat (first | apply Kd.R_alloc | apply Kd.R_drewN | apply Kd.R_drew)); exact Af.out) hb); have Bb := Aside0.mk (Kd.R_below (by (with_reducible repeat (first | apply Kd.R_alloc | apply Kd.R_drewN | apply Kd.R_drew)); exact Ad.out) hb); have Bg := Aside0.mk (Kd.R_below (by (with_reducible repeat (first | apply Kd.R_alloc | apply Kd.R_drewN | apply Kd.R_drew)); exact Be.out) hb); have Bi := Aside0.mk (Kd.R_below (by (with_reducible repeat (first | apply Kd.R_alloc | apply Kd.R_drewN | apply Kd.R_drew)); exact Bf.out) hb); have Bk := Aside0.mk (blk_below (g := Al) (o := .cells #[.slice A0_0 l0_0.length c0_0, .slice A0_1 l0_1.length c0_1] 25 (0, 0)) (by (with_reducible repeat (first | refine blk_drewN ?_ _ | refine blk_drew ?_ | refine blk_alloc ?_ _)); exact Ag.out) hb); have Bn := Aside0.mk (blk_below (g := Ak) (o := .cells #[.slice Aw Ao.length Av, .slice Cs Aa.length Cn] 25 (0, 0)) (by (with_reducible repeat (first | refine blk_drewN ?_ _ | refine blk_drew ?_ | refine blk_alloc ?_ _)); exact Ah.out) hb); have Cg := Aside0.mk (below_step (by repeat (first | (with_reducible first | exact HB.out | apply below_alloc | apply pw_below_drewN | apply below_drew1 | refine below_set ?_ Am.out | refine below_set ?_ Ap.out) | exact HB.out)) hb); have Cr := Aside0.mk (hbox); have Ct := Aside0.mk ((by rw [hg]; exact (below_size (by repeat (first | (with_reducible first | exact HB.out | apply below_alloc | apply pw_below_drewN | apply below_drew1 | refine below_set ?_ Am.out | refine below_set ?_ Ap.out) | exact HB.out))) : w.heap.size ≤ An)); have Hh := Aside0.mk ((by rw [hg]; exact (below_size (by repeat (first | (with_reducible first | exact HB.out | apply below_alloc | apply pw_below_drewN | apply below_drew1 | refine below_set ?_ Am.out | refine below_set ?_ Ap.out) | exact HB.out))) : w.heap.size ≤ An)); have n10_ := Aside0.mk ((by rw [hg]; exact Nat.ne_of_lt (blk_lt (g := Al) (o := .cells #[.slice A0_0 l0_0.length c0_0, .slice A0_1 l0_1.length c0_1] 25 (0, 0)) (by (with_reducible repeat (first | refine blk_drewN ?_ _ | refine blk_drew ?_ | refine blk_alloc ?_ _)); exact Ag.out)) : Al ≠ An)); have n11_ := Aside0.mk ((by rw [hg]; exact Nat.ne_of_gt (blk_lt (g := Al) (o := .cells #[.slice A0_0 l0_0.length c0_0, .slice A0_1 l0_1.length c0_1] 25 (0, 0)) (by (with_reducible repeat (first | refine blk_drewN ?_ _ | refine blk_drew ?_ | refine blk_alloc ?_ _)); exact Ag.out)) : An ≠ Al)); have n12_ := Aside0.mk ((by rw [hg]; exact Nat.ne_of_lt (blk_lt (g := Ak) (o := .cells #[.slice Aw Ao.length Av, .slice Cs Aa.length Cn] 25 (0, 0)) (by (with_reducible repeat (first | refine blk_drewN ?_ _ | refine blk_drew ?_ | refine blk_alloc ?_ _)); exact Ah.out)) : Ak ≠ An)); have n13_ := Aside0.mk ((by rw [hg]; exact Nat.ne_of_gt (blk_lt (g := Ak) (o := .cells #[.slice Aw Ao.length Av, .slice Cs Aa.length Cn] 25 (0, 0)) (by (with_reducible repeat (first | refine blk_drewN ?_ _ | refine blk_drew ?_ | refine blk_alloc ?_ _)); exact Ah.out)) : An ≠ Ak)); clear Af Ad Be Bf Ag Ah HB; have Af := Ba; have Ad := Bb; have Be := Bg; have Bf := Bi; have Ag := Bk; have Ah := Bn; have HB := Cg; have As := Cr; have GW370 := Ct; have Bt := Hh; have Ci := n10_; have Cy := n11_; have Cj := n12_; have Cz := n13_; clear Ba Bb Bg Bi Bk Bn Cg Cr Ct Hh n10_ n11_ n12_ n13_; clear hb hbox hg; obtain ⟨Bu, Bv, eo132⟩ := Kd.R_slice Be.out; subst eo132; have hnb133 := Cy.out; have hnc133 := Ci.out; have hnb134 := Cz.out; have hnc134 := Cj.out; have hcz135_0 : w131.cell? ⟨An, 0, none⟩ = some (.slice none 0 0) := (blk_cell As.out 0).trans rfl; have hcz135_1 : w131.cell? ⟨An, 1, none⟩ = some (.slice none 0 0) := (blk_cell As.out 1).trans rfl; have hfz135_0 := blk_frozen As.out 0; have hfz135_1 := blk_frozen As.out 1; obtain ⟨Bw, Bx, eo136⟩ := Kd.R_slice Bf.out; subst eo136; have hcz137_0 : w131.cell? ⟨Ak, 0, none⟩ = some (.slice Aw Ao.length Av) := (blk_cell Ah.out 0).trans rfl; have hcz137_1 : w131.cell? ⟨Ak, 1, none⟩ = some (.slice Cs Aa.length Cn) := (blk_cell Ah.out 1).trans rfl; have hfz137_0 := blk_frozen Ah.out 0; have hfz137_1 := blk_frozen Ah.out 1) | ((with_reducible refine gate_callee (f := 8) rfl ?_); refine goesL_ (some 105) rfl rfl Tryd.func8 (by kernel_rfl) rfl #[.agg #[.slice Aw Ao.length Av, .slice Cs Aa.length Cn]] rfl (by (try simp only [List.map_toArray, List.map_cons, List.map_nil]); first | done | rfl | (simp only [List.length_drop, List.length_take]; rfl)) ?_; (with_reducible refine (scope_Resolve.calls k1 _ _ Ao _ _ Aa Ch Cm Hi Kh _ ?side1 ?side2 ?side3 ?side4 A123.out (HG.out.below HG.out.lt (by repeat (first | (with_reducible first | exact HB.out | apply below_alloc | apply pw_below_drewN | apply below_drew1 | refine below_set ?_ (Aside0.out (by assumption))) | exact HB.out)))).mono ?_); (case side1 => refine (Kd.R_reads' (e := 45) (base := w.heap.size) (ok := fun k_ => (True ∧ some k_ ≠ (.slice Bu Bd.length Bv : Value).ownBlock)) (n := Ao.length) (c := Av) ?_).2.2; exact (by (with_reducible repeat (first | apply Kd.R_alloc | apply Kd.R_drewN | apply Kd.R_drew)); exact (Kd.R_mono (Kd.R_far (p := ⟨An, 1, none⟩) (Kd.R_far (p := ⟨An, 0, none⟩) (Kd.R_types Af.out As.out (by decide)) (fun _ hk => hk.2) (.slice Bu Bd.length Bv)) (fun _ hk => hk.2) (.slice Bw Bh.length Bx)) (fun _ h_ => h_.1)))); (case side2 => exact (Kd.R_reads' Af.out).2.1); (case side3 => refine (Kd.R_reads' (e := 34) (base := w.heap.size) (ok := fun k_ => (True ∧ some k_ ≠ (.slice Bw Bh.length Bx : Value).ownBlock)) (n := Aa.length) (c := Cn) ?_).2.2; exact (by (with_reducible repeat (first | apply Kd.R_alloc | apply Kd.R_drewN | apply Kd.R_drew)); exact (Kd.R_mono (Kd.R_far (p := ⟨An, 1, none⟩) (Kd.R_far (p := ⟨An, 0, none⟩) (Kd.R_types Ad.out As.out (by decide)) (fun _ hk => hk.2) (.slice Bu Bd.length Bv)) (fun _ hk => hk.2) (.slice Bw Bh.length Bx)) (fun _ h_ => h_.1)))); (case side4 => exact (Kd.R_reads' Ad.out).2.1); rintro e w138 ⟨v372, v375, rfl, ho0, ho1, hb⟩; refine ⟨_, rfl, ?_⟩; have Ba := Aside0.mk (Kd.R_elder' (by (with_reducible repeat (first | apply Kd.R_alloc | apply Kd.R_drewN | apply Kd.R_drew)); exact (Kd.R_mono (Kd.R_far (p := ⟨An, 1, none⟩) (Kd.R_far (p := ⟨An, 0, none⟩) (Kd.R_types Af.out As.out (by decide)) (fun _ hk => hk.2) (.slice Bu Bd.length Bv)) (fun _ hk => hk.2) (.slice Bw Bh.length Bx)) (fun _ h_ => h_.1))) (Kd.R_base ho0) hb); have Bb := Aside0.mk (Kd.R_elder' (by (with_reducible repeat (first | apply Kd.R_alloc | apply Kd.R_drewN | apply Kd.R_drew)); exact (Kd.R_mono (Kd.R_far (p := ⟨An, 1, none⟩) (Kd.R_far (p := ⟨An, 0, none⟩) (Kd.R_types Ad.out As.out (by decide)) (fun _ hk => hk.2) (.slice Bu Bd.length Bv)) (fun _ hk => hk.2) (.slice Bw Bh.length Bx)) (fun _ h_ => h_.1))) (Kd.R_base ho1) hb); have Bg := Aside0.mk (Kd.R_elder' (by (with_reducible repeat (first | apply Kd.R_alloc | apply Kd.R_drewN | apply Kd.R_drew)); exact (Kd.R_mono (Kd.R_far (p := ⟨An, 1, none⟩) (Kd.R_far (p := ⟨An, 0, none⟩) (Kd.R_types Be.out As.out (by decide)) (fun _ hk => hk.2) (.slice Bu Bd.length Bv)) (fun _ hk => hk.2) (.slice Bw Bh.length Bx)) (fun _ h_ => h_.1))) (Kd.R_base ho0) hb); have Bi := Aside0.mk (Kd.R_elder' (by (with_reducible repeat (first | apply Kd.R_alloc | apply Kd.R_drewN | apply Kd.R_drew)); exact (Kd.R_mono (Kd.R_far (p := ⟨An, 1, none⟩) (Kd.R_far (p := ⟨An, 0, none⟩) (Kd.R_types Bf.out As.out (by decide)) (fun _ hk => hk.2) (.slice Bu Bd.length Bv)) (fun _ hk => hk.2) (.slice Bw Bh.length Bx)) (fun _ h_ => h_.1))) (Kd.R_base ho1) hb); have Bk := Aside0.mk (Kd.R_lower (Kd.R_new' (Kd.R_new' ho0 (Kd.R_lt (by (with_reducible repeat (first | apply Kd.R_alloc | apply Kd.R_drewN | apply Kd.R_drew)); exact (Kd.R_mono (Kd.R_far (p := ⟨An, 1, none⟩) (Kd.R_far (p := ⟨An, 0, none⟩) (Kd.R_types Af.out As.out (by decide)) (fun _ hk => hk.2) (.slice Bu Bd.length Bv)) (fun _ hk => hk.2) (.slice Bw Bh.length Bx)) (fun _ h_ => h_.1))))) (Kd.R_lt (by (with_reducible repeat (first | apply Kd.R_alloc | apply Kd.R_drewN | apply Kd.R_drew)); exact (Kd.R_mono (Kd.R_far (p := ⟨An, 1, none⟩) (Kd.R_far (p := ⟨An, 0, none⟩) (Kd.R_types Be.out As.out (by decide)) (fun _ hk => hk.2) (.slice Bu Bd.length Bv)) (fun _ hk => hk.2) (.slice Bw Bh.length Bx)) (fun _ h_ => h_.1))))) (below_size (by repeat (first | (with_reducible first | exact HB.out | apply below_alloc | apply pw_below_drewN | apply below_drew1 | refine below_set ?_ Am.out | refine below_set ?_ Ap.out | refine below_set ?_ Bt.out) | exact HB.out)))); have Bn := Aside0.mk (Kd.R_lower (Kd.R_new' (Kd.R_new' ho1 (Kd.R_lt (by (with_reducible repeat (first | apply Kd.R_alloc | apply Kd.R_drewN | apply Kd.R_drew)); exact (Kd.R_mono (Kd.R_far (p := ⟨An, 1, none⟩) (Kd.R_far (p := ⟨An, 0, none⟩) (Kd.R_types Ad.out As.out (by decide)) (fun _ hk => hk.2) (.slice Bu Bd.length Bv)) (fun _ hk => hk.2) (.slice Bw Bh.length Bx)) (fun _ h_ => h_.1))))) (Kd.R_lt (by (with_reducible repeat (first | apply Kd.R_alloc | apply Kd.R_drewN | apply Kd.R_drew)); exact (Kd.R_mono (Kd.R_far (p := ⟨An, 1, none⟩) (Kd.R_far (p := ⟨An, 0, none⟩) (Kd.R_types Bf.out As.out (by decide)) (fun _ hk => hk.2) (.slice Bu Bd.length Bv)) (fun _ hk => hk.2) (.slice Bw Bh.length Bx)) (fun _ h_ => h_.1))))) (below_size (by repeat (first | (with_reducible first | exact HB.out | apply below_alloc | apply pw_below_drewN | apply below_drew1 | refine below_set ?_ Am.out | refine below_set ?_ Ap.out | refine below_set ?_ Bt.out) | exact HB.out)))); have Cg := Aside0.mk (blk_below (g := Al) (o := .cells #[.slice A0_0 l0_0.length c0_0, .slice A0_1 l0_1.length c0_1] 25 (0, 0)) (by (with_reducible repeat (first | refine blk_drewN ?_ _ | refine blk_drew ?_ | refine blk_alloc ?_ _ | refine blk_far ?_ Ci.out _)); (with_reducible repeat (first | refine blk_drewN ?_ _ | refine blk_drew ?_ | refine blk_alloc ?_ _)); exact Ag.out) hb); have Cr := Aside0.mk (blk_below (g := Ak) (o := .cells #[.slice Aw Ao.length Av, .slice Cs Aa.length Cn] 25 (0, 0)) (by (with_reducible repeat (first | refine blk_drewN ?_ _ | refine blk_drew ?_ | refine blk_alloc ?_ _ | refine blk_far ?_ Cj.out _)); (with_reducible repeat (first | refine blk_drewN ?_ _ | refine blk_drew ?_ | refine blk_alloc ?_ _)); exact Ah.out) hb); have Ct := Aside0.mk (blk_below (g := An) (o := .cells #[.slice Bu Bd.length Bv, .slice Bw Bh.length Bx] 25 (0, 0)) (by (with_reducible repeat (first | refine blk_drewN ?_ _ | refine blk_drew ?_ | refine blk_alloc ?_ _)); refine blk_put (cs := #[.slice Bu Bd.length Bv, .slice none 0 0]) ?_ 1 _ rfl; (with_reducible repeat (first | refine blk_drewN ?_ _ | refine blk_drew ?_ | refine blk_alloc ?_ _)); refine blk_put (cs := #[.slice none 0 0, .slice none 0 0]) ?_ 0 _ rfl; (with_reducible repeat (first | refine blk_drewN ?_ _ | refine blk_drew ?_ | refine blk_alloc ?_ _)); exact As.out) hb); have Hh := Aside0.mk (below_step (by repeat (first | (with_reducible first | exact HB.out | apply below_alloc | apply pw_below_drewN | apply below_drew1 | refine below_set ?_ Am.out | refine below_set ?_ Ap.out | refine below_set ?_ Bt.out) | exact HB.out)) hb); clear Af Ad Be Bf Ag Ah As HB; have Af := Ba; have Ad := Bb; have Be := Bg; have Bf := Bi; have Ca := Bk; have Cb := Bn; have Ag := Cg; have Ah := Cr; have As := Ct; have HB := Hh; clear Ba Bb Bg Bi Bk Bn Cg Cr Ct Hh; (try clear hb); (try clear hb2); (try clear hk); (try clear hi); (try clear ho0); (try clear ho1)) | ((with_reducible refine gate_dst (N := 9) rfl ?_); (try (refine gate_guard (by rfl) ?_; dsimp only)); refine box_event ?hg (N := 9) ?hd (cs := #[.slice none 0 0, .slice none 0 0]) (t := 25) ?hr ?_; (case hd => rfl); (case hg => rfl); (case hr => first | (go_simp; done) | (go_simp; rfl)); intro Au hg w139 hbox hb; have Ba := Aside0.mk (Kd.R_below (by (with_reducible repeat (first | apply Kd.R_alloc | apply Kd.R_drewN | apply Kd.R_drew)); exact Af.out) hb); have Bb := Aside0.mk (Kd.R_below (by (with_reducible repeat (first | apply Kd.R_alloc | apply Kd.R_drewN | apply Kd.R_drew)); exact Ad.out) hb); have Bg := Aside0.mk (Kd.R_below (by (with_reducible repeat (first | apply Kd.R_alloc | apply Kd.R_drewN | apply Kd.R_drew)); exact Be.out) hb); have Bi := Aside0.mk (Kd.R_below (by (with_reducible repeat (first | apply Kd.R_alloc | apply Kd.R_drewN | apply Kd.R_drew)); exact Bf.out) hb); have Bk := Aside0.mk (Kd.R_below (by (with_reducible repeat (first | apply Kd.R_alloc | apply Kd.R_drewN | apply Kd.R_drew)); exact Ca.out) hb); have Bn := Aside0.mk (Kd.R_below (by (with_reducible repeat (first | apply Kd.R_alloc | apply Kd.R_drewN | apply Kd.R_drew)); exact Cb.out) hb); have Cg := Aside0.mk (blk_below (g := Al) (o := .cells #[.slice A0_0 l0_0.length c0_0, .slice A0_1 l0_1.length c0_1] 25 (0, 0)) (by (with_reducible repeat (first | refine blk_drewN ?_ _ | refine blk_drew ?_ | refine blk_alloc ?_ _)); exact Ag.out) hb); have Cr := Aside0.mk (blk_below (g := Ak) (o := .cells #[.slice Aw Ao.length Av, .slice Cs Aa.length Cn] 25 (0, 0)) (by (with_reducible repeat (first | refine blk_drewN ?_ _ | refine blk_drew ?_ | refine blk_alloc ?_ _)); exact Ah.out) hb); have Ct := Aside0.mk (blk_below (g := An) (o := .cells #[.slice Bu Bd.length Bv, .slice Bw Bh.length Bx] 25 (0, 0)) (by (with_reducible repeat (first | refine blk_drewN ?_ _ | refine blk_drew ?_ | refine blk_alloc ?_ _)); exact As.out) hb); have Hh := Aside0.mk (below_step (by repeat (first | (with_reducible first | exact HB.out | apply below_alloc | apply pw_below_drewN | apply below_drew1 | refine below_set ?_ Am.out | refine below_set ?_ Ap.out | refine below_set ?_ Bt.out) | exact HB.out)) hb); have n10_ := Aside0.mk (hbox); have n11_ := Aside0.mk ((by rw [hg]; exact (below_size (by repeat (first | (with_reducible first | exact HB.out | apply below_alloc | apply pw_below_drewN | apply below_drew1 | refine below_set ?_ Am.out | refine below_set ?_ Ap.out | refine below_set ?_ Bt.out) | exact HB.out))) : w.heap.size ≤ Au)); have n12_ := Aside0.mk ((by rw [hg]; exact (below_size (by repeat (first | (with_reducible first | exact HB.out | apply below_alloc | apply pw_below_drewN | apply below_drew1 | refine below_set ?_ Am.out | refine below_set ?_ Ap.out | refine below_set ?_ Bt.out) | exact HB.out))) : w.heap.size ≤ Au)); have n13_ := Aside0.mk ((by rw [hg]; exact Nat.ne_of_lt (blk_lt (g := Al) (o := .cells #[.slice A0_0 l0_0.length c0_0, .slice A0_1 l0_1.length c0_1] 25 (0, 0)) (by (with_reducible repeat (first | refine blk_drewN ?_ _ | refine blk_drew ?_ | refine blk_alloc ?_ _)); exact Ag.out)) : Al ≠ Au)); have n14_ := Aside0.mk ((by rw [hg]; exact Nat.ne_of_gt (blk_lt (g := Al) (o := .cells #[.slice A0_0 l0_0.length c0_0, .slice A0_1 l0_1.length c0_1] 25 (0, 0)) (by (with_reducible repeat (first | refine blk_drewN ?_ _ | refine blk_drew ?_ | refine blk_alloc ?_ _)); exact Ag.out)) : Au ≠ Al)); have n15_ := Aside0.mk ((by rw [hg]; exact Nat.ne_of_lt (blk_lt (g := Ak) (o := .cells #[.slice Aw Ao.length Av, .slice Cs Aa.length Cn] 25 (0, 0)) (by (with_reducible repeat (first | refine blk_drewN ?_ _ | refine blk_drew ?_ | refine blk_alloc ?_ _)); exact Ah.out)) : Ak ≠ Au)); have n16_ := Aside0.mk ((by rw [hg]; exact Nat.ne_of_gt (blk_lt (g := Ak) (o := .cells #[.slice Aw Ao.length Av, .slice Cs Aa.length Cn] 25 (0, 0)) (by (with_reducible repeat (first | refine blk_drewN ?_ _ | refine blk_drew ?_ | refine blk_alloc ?_ _)); exact Ah.out)) : Au ≠ Ak)); have n17_ := Aside0.mk ((by rw [hg]; exact Nat.ne_of_lt (blk_lt (g := An) (o := .cells #[.slice Bu Bd.length Bv, .slice Bw Bh.length Bx] 25 (0, 0)) (by (with_reducible repeat (first | refine blk_drewN ?_ _ | refine blk_drew ?_ | refine blk_alloc ?_ _)); exact As.out)) : An ≠ Au)); have n18_ := Aside0.mk ((by rw [hg]; exact Nat.ne_of_gt (blk_lt (g := An) (o := .cells #[.slice Bu Bd.length Bv, .slice Bw Bh.length Bx] 25 (0, 0)) (by (with_reducible repeat (first | refine blk_drewN ?_ _ | refine blk_drew ?_ | refine blk_alloc ?_ _)); exact As.out)) : Au ≠ An)); clear Af Ad Be Bf Ca Cb Ag Ah As HB; have Af := Ba; have Ad := Bb; have Be := Bg; have Bf := Bi; have Ca := Bk; have Cb := Bn; have Ag := Cg; have Ah := Cr; have As := Ct; have HB := Hh; have Bm := n10_; have GW379 := n11_; have Lh := n12_; have Co := n13_; have Da := n14_; have Cp := n15_; have Db := n16_; have Cq := n17_; have Dc := n18_; clear Ba Bb Bg Bi Bk Bn Cg Cr Ct Hh n10_ n11_ n12_ n13_ n14_ n15_ n16_ n17_ n18_; clear hb hbox hg; obtain ⟨Ao140, co140, eo140⟩ := Kd.R_slice Ca.out; subst eo140; have hnb141 := Da.out; have hnc141 := Co.out; have hnb142 := Db.out; have hnc142 := Cp.out; have hnb143 := Dc.out; have hnc143 := Cq.out; have hcz144_0 : w139.cell? ⟨Au, 0, none⟩ = some (.slice none 0 0) := (blk_cell Bm.out 0).trans rfl; have hcz144_1 : w139.cell? ⟨Au, 1, none⟩ = some (.slice none 0 0) := (blk_cell Bm.out 1).trans rfl; have hfz144_0 := blk_frozen Bm.out 0; have hfz144_1 := blk_frozen Bm.out 1; obtain ⟨Ao145, co145, eo145⟩ := Kd.R_slice Cb.out; subst eo145) | ((with_reducible refine gate_callee (f := 9) rfl ?_); refine goesL_ (some 110) rfl rfl Tryd.func9 (by kernel_rfl) rfl #[.int .i64 Cv] rfl (by (try simp only [List.map_toArray, List.map_cons, List.map_nil]); first | done | rfl | (simp only [List.length_drop, List.length_take]; rfl)) ?_; (with_reducible refine (trammellaw0_Num.calls Cv Df _ A124.out).mono ?_); rintro e w' ⟨rfl, ⟨nd, rfl⟩⟩; refine ⟨_, rfl, ?_⟩))
      go_ret
      exact ⟨by first | rfl | (simp [errW_none, errW_some] <;> rfl) | (simp [*, errW_none, errW_some] <;> rfl), by repeat (first | (with_reducible first | exact HB.out | apply below_alloc | apply pw_below_drewN | apply below_drew1 | refine below_set ?_ Am.out | refine below_set ?_ Ap.out | refine below_set ?_ Bt.out | refine below_set ?_ Lh.out) | exact HB.out)⟩
     ·
      rw [if_neg c125] at H
      have c125b0 : (Df == 600) = false := beq_eq_false_iff_ne.mpr c125
      have c125b1 : (Df != 600) = true := bne_iff_ne.mpr c125
      replace H := Option.bind_eq_some_iff.mp H
      obtain ⟨Kg, A1460, H⟩ := H
      replace H : (if Kg = true then (if De = Hi then ((trammellaw0_Num.f Cv).bind fun Cx => ((trammellaw0_Num.f Kh).bind fun Cw => (some (Cx == Cw)))) else (some false)) else (some false)) = some r := H
      have A146 := Aside0.mk A1460
      clear A1460
      by_cases c147 : Kg = true
      ·
       subst c147
       have H1 : (if De = Hi then ((trammellaw0_Num.f Cv).bind fun Cx => ((trammellaw0_Num.f Kh).bind fun Cw => (some (Cx == Cw)))) else (some false)) = some r := by rw [if_pos rfl] at H; exact H
       clear H
       have H := H1
       clear H1
       by_cases c148 : De = Hi
       ·
        rw [if_pos c148] at H
        have c148b0 : (De == Hi) = true := beq_iff_eq.mpr c148
        have c148b1 : (De != Hi) = false := bne_eq_false_iff_eq.mpr c148
        clear c148
        replace H := Option.bind_eq_some_iff.mp H
        obtain ⟨Cx, A1490, H⟩ := H
        replace H : ((trammellaw0_Num.f Kh).bind fun Cw => (some (Cx == Cw))) = some r := H
        have A149 := Aside0.mk A1490
        clear A1490
        replace H := Option.bind_eq_some_iff.mp H
        obtain ⟨Cw, A1500, H⟩ := H
        replace H : (some (Cx == Cw)) = some r := H
        have A150 := Aside0.mk A1500
        clear A1500
        obtain rfl := Option.some.inj H
        have hnb151 := Ax.out
        have hnc151 := At.out
        have hcz152_0 : wr.cell? ⟨Ak, 0, none⟩ = some (.slice Aw Ao.length Av) := (blk_cell Ah.out 0).trans rfl
        have hcz152_1 : wr.cell? ⟨Ak, 1, none⟩ = some (u356001) := (blk_cell Ah.out 1).trans rfl
        have hfz152_0 := blk_frozen Ah.out 0
        have hfz152_1 := blk_frozen Ah.out 1
        obtain ⟨Ck, Cc, eo153⟩ := Kd.R_slice Ad.out
        subst eo153
        have hcz154_0 : wr.cell? ⟨Al, 0, none⟩ = some (.slice A0_0 l0_0.length c0_0) := (blk_cell Ag.out 0).trans rfl
        have hcz154_1 : wr.cell? ⟨Al, 1, none⟩ = some (.slice A0_1 l0_1.length c0_1) := (blk_cell Ag.out 1).trans rfl
        have hfz154_0 := blk_frozen Ag.out 0
        have hfz154_1 := blk_frozen Ag.out 1
        go_wp2_with (first | ((with_reducible refine gate_callee (f := 8) rfl ?_); refine goesL_ (some 99) rfl rfl Tryd.func8 (by kernel_rfl) rfl #[.agg #[.slice A0_0 l0_0.length c0_0, .slice A0_1 l0_1.length c0_1]] rfl (by (try simp only [List.map_toArray, List.map_cons, List.map_nil]); first | done | rfl | (simp only [List.length_drop, List.length_take]; rfl)) ?_; (with_reducible refine (scope_Resolve.calls k1 _ _ l0_0 _ _ l0_1 Bd Bh De Cv _ ?side1 ?side2 ?side3 ?side4 A122.out (HG.out.below HG.out.lt (by repeat (first | (with_reducible first | exact HB.out | apply below_alloc | apply pw_below_drewN | apply below_drew1 | refine below_set ?_ (Aside0.out (by assumption))) | exact HB.out)))).mono ?_); (case side1 => repeat (first | exact (Kd.C_below Kj.out HB.out) | (with_reducible refine Kd.C_alloc ?_ _) | (with_reducible refine Kd.C_drewN ?_ _) | (with_reducible refine Kd.C_drew ?_))); (case side2 => exact Kk.out); (case side3 => repeat (first | exact (Kd.C_below Ka.out HB.out) | (with_reducible refine Kd.C_alloc ?_ _) | (with_reducible refine Kd.C_drewN ?_ _) | (with_reducible refine Kd.C_drew ?_))); (case side4 => exact Kb.out); rintro e w155 ⟨v363, v366, rfl, ho0, ho1, hb⟩; refine ⟨_, rfl, ?_⟩; have Ba := Aside0.mk (Kd.R_elder' (by (with_reducible repeat (first | apply Kd.R_alloc | apply Kd.R_drewN | apply Kd.R_drew)); exact Af.out) (Kd.R_base ho0) hb); have Bb := Aside0.mk (Kd.R_elder' (by (with_reducible repeat (first | apply Kd.R_alloc | apply Kd.R_drewN | apply Kd.R_drew)); exact Ad.out) (Kd.R_base ho1) hb); have Bg := Aside0.mk (Kd.R_lower (Kd.R_new' ho0 (Kd.R_lt (by (with_reducible repeat (first | apply Kd.R_alloc | apply Kd.R_drewN | apply Kd.R_drew)); exact Af.out))) (below_size (by repeat (first | (with_reducible first | exact HB.out | apply below_alloc | apply pw_below_drewN | apply below_drew1 | refine below_set ?_ Am.out | refine below_set ?_ Ap.out) | exact HB.out)))); have Bi := Aside0.mk (Kd.R_lower (Kd.R_new' ho1 (Kd.R_lt (by (with_reducible repeat (first | apply Kd.R_alloc | apply Kd.R_drewN | apply Kd.R_drew)); exact Ad.out))) (below_size (by repeat (first | (with_reducible first | exact HB.out | apply below_alloc | apply pw_below_drewN | apply below_drew1 | refine below_set ?_ Am.out | refine below_set ?_ Ap.out) | exact HB.out)))); have Bk := Aside0.mk (blk_below (g := Al) (o := .cells #[.slice A0_0 l0_0.length c0_0, .slice A0_1 l0_1.length c0_1] 25 (0, 0)) (by (with_reducible repeat (first | refine blk_drewN ?_ _ | refine blk_drew ?_ | refine blk_alloc ?_ _)); exact Ag.out) hb); have Bn := Aside0.mk (blk_below (g := Ak) (o := .cells #[.slice Aw Ao.length Av, .slice Ck Aa.length Cc] 25 (0, 0)) (by (with_reducible repeat (first | refine blk_drewN ?_ _ | refine blk_drew ?_ | refine blk_alloc ?_ _)); exact Ah.out) hb); have Cg := Aside0.mk (below_step (by repeat (first | (with_reducible first | exact HB.out | apply below_alloc | apply pw_below_drewN | apply below_drew1 | refine below_set ?_ Am.out | refine below_set ?_ Ap.out) | exact HB.out)) hb); clear Af Ad Ag Ah HB; have Af := Ba; have Ad := Bb; have Be := Bg; have Bf := Bi; have Ag := Bk; have Ah := Bn; have HB := Cg; clear Ba Bb Bg Bi Bk Bn Cg; (try clear hb); (try clear hb2); (try clear hk); (try clear hi); (try clear ho0); (try clear ho1)) | ((with_reducible refine gate_dst (N := 6) rfl ?_); (try (refine gate_guard (by rfl) ?_; dsimp only)); refine box_event ?hg (N := 6) ?hd (cs := #[.slice none 0 0, .slice none 0 0]) (t := 25) ?hr ?_; (case hd => rfl); (case hg => rfl); (case hr => first | (go_simp; done) | (go_simp; rfl)); intro An hg w156 hbox hb; have Ba := Aside0.mk (Kd.R_below (by (with_reducible repeat (first | apply Kd.R_alloc | apply Kd.R_drewN | apply Kd.R_drew)); exact Af.out) hb); have Bb := Aside0.mk (Kd.R_below (by (with_reducible repeat (first | apply Kd.R_alloc | apply Kd.R_drewN | apply Kd.R_drew)); exact Ad.out) hb); have Bg := Aside0.mk (Kd.R_below (by (with_reducible repeat (first | apply Kd.R_alloc | apply Kd.R_drewN | apply Kd.R_drew)); exact Be.out) hb); have Bi := Aside0.mk (Kd.R_below (by (with_reducible repeat (first | apply Kd.R_alloc | apply Kd.R_drewN | apply Kd.R_drew)); exact Bf.out) hb); have Bk := Aside0.mk (blk_below (g := Al) (o := .cells #[.slice A0_0 l0_0.length c0_0, .slice A0_1 l0_1.length c0_1] 25 (0, 0)) (by (with_reducible repeat (first | refine blk_drewN ?_ _ | refine blk_drew ?_ | refine blk_alloc ?_ _)); exact Ag.out) hb); have Bn := Aside0.mk (blk_below (g := Ak) (o := .cells #[.slice Aw Ao.length Av, .slice Ck Aa.length Cc] 25 (0, 0)) (by (with_reducible repeat (first | refine blk_drewN ?_ _ | refine blk_drew ?_ | refine blk_alloc ?_ _)); exact Ah.out) hb); have Cg := Aside0.mk (below_step (by repeat (first | (with_reducible first | exact HB.out | apply below_alloc | apply pw_below_drewN | apply below_drew1 | refine below_set ?_ Am.out | refine below_set ?_ Ap.out) | exact HB.out)) hb); have Cr := Aside0.mk (hbox); have Ct := Aside0.mk ((by rw [hg]; exact (below_size (by repeat (first | (with_reducible first | exact HB.out | apply below_alloc | apply pw_below_drewN | apply below_drew1 | refine below_set ?_ Am.out | refine below_set ?_ Ap.out) | exact HB.out))) : w.heap.size ≤ An)); have Hh := Aside0.mk ((by rw [hg]; exact (below_size (by repeat (first | (with_reducible first | exact HB.out | apply below_alloc | apply pw_below_drewN | apply below_drew1 | refine below_set ?_ Am.out | refine below_set ?_ Ap.out) | exact HB.out))) : w.heap.size ≤ An)); have n10_ := Aside0.mk ((by rw [hg]; exact Nat.ne_of_lt (blk_lt (g := Al) (o := .cells #[.slice A0_0 l0_0.length c0_0, .slice A0_1 l0_1.length c0_1] 25 (0, 0)) (by (with_reducible repeat (first | refine blk_drewN ?_ _ | refine blk_drew ?_ | refine blk_alloc ?_ _)); exact Ag.out)) : Al ≠ An)); have n11_ := Aside0.mk ((by rw [hg]; exact Nat.ne_of_gt (blk_lt (g := Al) (o := .cells #[.slice A0_0 l0_0.length c0_0, .slice A0_1 l0_1.length c0_1] 25 (0, 0)) (by (with_reducible repeat (first | refine blk_drewN ?_ _ | refine blk_drew ?_ | refine blk_alloc ?_ _)); exact Ag.out)) : An ≠ Al)); have n12_ := Aside0.mk ((by rw [hg]; exact Nat.ne_of_lt (blk_lt (g := Ak) (o := .cells #[.slice Aw Ao.length Av, .slice Ck Aa.length Cc] 25 (0, 0)) (by (with_reducible repeat (first | refine blk_drewN ?_ _ | refine blk_drew ?_ | refine blk_alloc ?_ _)); exact Ah.out)) : Ak ≠ An)); have n13_ := Aside0.mk ((by rw [hg]; exact Nat.ne_of_gt (blk_lt (g := Ak) (o := .cells #[.slice Aw Ao.length Av, .slice Ck Aa.length Cc] 25 (0, 0)) (by (with_reducible repeat (first | refine blk_drewN ?_ _ | refine blk_drew ?_ | refine blk_alloc ?_ _)); exact Ah.out)) : An ≠ Ak)); clear Af Ad Be Bf Ag Ah HB; have Af := Ba; have Ad := Bb; have Be := Bg; have Bf := Bi; have Ag := Bk; have Ah := Bn; have HB := Cg; have As := Cr; have GW370 := Ct; have Bt := Hh; have Ci := n10_; have Cy := n11_; have Cj := n12_; have Cz := n13_; clear Ba Bb Bg Bi Bk Bn Cg Cr Ct Hh n10_ n11_ n12_ n13_; clear hb hbox hg; obtain ⟨Bp, Bo, eo157⟩ := Kd.R_slice Be.out; subst eo157; have hnb158 := Cy.out; have hnc158 := Ci.out; have hnb159 := Cz.out; have hnc159 := Cj.out; have hcz160_0 : w156.cell? ⟨An, 0, none⟩ = some (.slice none 0 0) := (blk_cell As.out 0).trans rfl; have hcz160_1 : w156.cell? ⟨An, 1, none⟩ = some (.slice none 0 0) := (blk_cell As.out 1).trans rfl; have hfz160_0 := blk_frozen As.out 0; have hfz160_1 := blk_frozen As.out 1; obtain ⟨Bs, Bq, eo161⟩ := Kd.R_slice Bf.out; subst eo161; have hcz162_0 : w156.cell? ⟨Ak, 0, none⟩ = some (.slice Aw Ao.length Av) := (blk_cell Ah.out 0).trans rfl; have hcz162_1 : w156.cell? ⟨Ak, 1, none⟩ = some (.slice Ck Aa.length Cc) := (blk_cell Ah.out 1).trans rfl; have hfz162_0 := blk_frozen Ah.out 0; have hfz162_1 := blk_frozen Ah.out 1) | ((with_reducible refine gate_callee (f := 8) rfl ?_); refine goesL_ (some 105) rfl rfl Tryd.func8 (by kernel_rfl) rfl #[.agg #[.slice Aw Ao.length Av, .slice Ck Aa.length Cc]] rfl (by (try simp only [List.map_toArray, List.map_cons, List.map_nil]); first | done | rfl | (simp only [List.length_drop, List.length_take]; rfl)) ?_; (with_reducible refine (scope_Resolve.calls k1 _ _ Ao _ _ Aa Ch Cm Hi Kh _ ?side1 ?side2 ?side3 ?side4 A123.out (HG.out.below HG.out.lt (by repeat (first | (with_reducible first | exact HB.out | apply below_alloc | apply pw_below_drewN | apply below_drew1 | refine below_set ?_ (Aside0.out (by assumption))) | exact HB.out)))).mono ?_); (case side1 => refine (Kd.R_reads' (e := 45) (base := w.heap.size) (ok := fun k_ => (True ∧ some k_ ≠ (.slice Bp Bd.length Bo : Value).ownBlock)) (n := Ao.length) (c := Av) ?_).2.2; exact (by (with_reducible repeat (first | apply Kd.R_alloc | apply Kd.R_drewN | apply Kd.R_drew)); exact (Kd.R_mono (Kd.R_far (p := ⟨An, 1, none⟩) (Kd.R_far (p := ⟨An, 0, none⟩) (Kd.R_types Af.out As.out (by decide)) (fun _ hk => hk.2) (.slice Bp Bd.length Bo)) (fun _ hk => hk.2) (.slice Bs Bh.length Bq)) (fun _ h_ => h_.1)))); (case side2 => exact (Kd.R_reads' Af.out).2.1); (case side3 => refine (Kd.R_reads' (e := 34) (base := w.heap.size) (ok := fun k_ => (True ∧ some k_ ≠ (.slice Bs Bh.length Bq : Value).ownBlock)) (n := Aa.length) (c := Cc) ?_).2.2; exact (by (with_reducible repeat (first | apply Kd.R_alloc | apply Kd.R_drewN | apply Kd.R_drew)); exact (Kd.R_mono (Kd.R_far (p := ⟨An, 1, none⟩) (Kd.R_far (p := ⟨An, 0, none⟩) (Kd.R_types Ad.out As.out (by decide)) (fun _ hk => hk.2) (.slice Bp Bd.length Bo)) (fun _ hk => hk.2) (.slice Bs Bh.length Bq)) (fun _ h_ => h_.1)))); (case side4 => exact (Kd.R_reads' Ad.out).2.1); rintro e w163 ⟨v372, v375, rfl, ho0, ho1, hb⟩; refine ⟨_, rfl, ?_⟩; have Ba := Aside0.mk (Kd.R_elder' (by (with_reducible repeat (first | apply Kd.R_alloc | apply Kd.R_drewN | apply Kd.R_drew)); exact (Kd.R_mono (Kd.R_far (p := ⟨An, 1, none⟩) (Kd.R_far (p := ⟨An, 0, none⟩) (Kd.R_types Af.out As.out (by decide)) (fun _ hk => hk.2) (.slice Bp Bd.length Bo)) (fun _ hk => hk.2) (.slice Bs Bh.length Bq)) (fun _ h_ => h_.1))) (Kd.R_base ho0) hb); have Bb := Aside0.mk (Kd.R_elder' (by (with_reducible repeat (first | apply Kd.R_alloc | apply Kd.R_drewN | apply Kd.R_drew)); exact (Kd.R_mono (Kd.R_far (p := ⟨An, 1, none⟩) (Kd.R_far (p := ⟨An, 0, none⟩) (Kd.R_types Ad.out As.out (by decide)) (fun _ hk => hk.2) (.slice Bp Bd.length Bo)) (fun _ hk => hk.2) (.slice Bs Bh.length Bq)) (fun _ h_ => h_.1))) (Kd.R_base ho1) hb); have Bg := Aside0.mk (Kd.R_elder' (by (with_reducible repeat (first | apply Kd.R_alloc | apply Kd.R_drewN | apply Kd.R_drew)); exact (Kd.R_mono (Kd.R_far (p := ⟨An, 1, none⟩) (Kd.R_far (p := ⟨An, 0, none⟩) (Kd.R_types Be.out As.out (by decide)) (fun _ hk => hk.2) (.slice Bp Bd.length Bo)) (fun _ hk => hk.2) (.slice Bs Bh.length Bq)) (fun _ h_ => h_.1))) (Kd.R_base ho0) hb); have Bi := Aside0.mk (Kd.R_elder' (by (with_reducible repeat (first | apply Kd.R_alloc | apply Kd.R_drewN | apply Kd.R_drew)); exact (Kd.R_mono (Kd.R_far (p := ⟨An, 1, none⟩) (Kd.R_far (p := ⟨An, 0, none⟩) (Kd.R_types Bf.out As.out (by decide)) (fun _ hk => hk.2) (.slice Bp Bd.length Bo)) (fun _ hk => hk.2) (.slice Bs Bh.length Bq)) (fun _ h_ => h_.1))) (Kd.R_base ho1) hb); have Bk := Aside0.mk (Kd.R_lower (Kd.R_new' (Kd.R_new' ho0 (Kd.R_lt (by (with_reducible repeat (first | apply Kd.R_alloc | apply Kd.R_drewN | apply Kd.R_drew)); exact (Kd.R_mono (Kd.R_far (p := ⟨An, 1, none⟩) (Kd.R_far (p := ⟨An, 0, none⟩) (Kd.R_types Af.out As.out (by decide)) (fun _ hk => hk.2) (.slice Bp Bd.length Bo)) (fun _ hk => hk.2) (.slice Bs Bh.length Bq)) (fun _ h_ => h_.1))))) (Kd.R_lt (by (with_reducible repeat (first | apply Kd.R_alloc | apply Kd.R_drewN | apply Kd.R_drew)); exact (Kd.R_mono (Kd.R_far (p := ⟨An, 1, none⟩) (Kd.R_far (p := ⟨An, 0, none⟩) (Kd.R_types Be.out As.out (by decide)) (fun _ hk => hk.2) (.slice Bp Bd.length Bo)) (fun _ hk => hk.2) (.slice Bs Bh.length Bq)) (fun _ h_ => h_.1))))) (below_size (by repeat (first | (with_reducible first | exact HB.out | apply below_alloc | apply pw_below_drewN | apply below_drew1 | refine below_set ?_ Am.out | refine below_set ?_ Ap.out | refine below_set ?_ Bt.out) | exact HB.out)))); have Bn := Aside0.mk (Kd.R_lower (Kd.R_new' (Kd.R_new' ho1 (Kd.R_lt (by (with_reducible repeat (first | apply Kd.R_alloc | apply Kd.R_drewN | apply Kd.R_drew)); exact (Kd.R_mono (Kd.R_far (p := ⟨An, 1, none⟩) (Kd.R_far (p := ⟨An, 0, none⟩) (Kd.R_types Ad.out As.out (by decide)) (fun _ hk => hk.2) (.slice Bp Bd.length Bo)) (fun _ hk => hk.2) (.slice Bs Bh.length Bq)) (fun _ h_ => h_.1))))) (Kd.R_lt (by (with_reducible repeat (first | apply Kd.R_alloc | apply Kd.R_drewN | apply Kd.R_drew)); exact (Kd.R_mono (Kd.R_far (p := ⟨An, 1, none⟩) (Kd.R_far (p := ⟨An, 0, none⟩) (Kd.R_types Bf.out As.out (by decide)) (fun _ hk => hk.2) (.slice Bp Bd.length Bo)) (fun _ hk => hk.2) (.slice Bs Bh.length Bq)) (fun _ h_ => h_.1))))) (below_size (by repeat (first | (with_reducible first | exact HB.out | apply below_alloc | apply pw_below_drewN | apply below_drew1 | refine below_set ?_ Am.out | refine below_set ?_ Ap.out | refine below_set ?_ Bt.out) | exact HB.out)))); have Cg := Aside0.mk (blk_below (g := Al) (o := .cells #[.slice A0_0 l0_0.length c0_0, .slice A0_1 l0_1.length c0_1] 25 (0, 0)) (by (with_reducible repeat (first | refine blk_drewN ?_ _ | refine blk_drew ?_ | refine blk_alloc ?_ _ | refine blk_far ?_ Ci.out _)); (with_reducible repeat (first | refine blk_drewN ?_ _ | refine blk_drew ?_ | refine blk_alloc ?_ _)); exact Ag.out) hb); have Cr := Aside0.mk (blk_below (g := Ak) (o := .cells #[.slice Aw Ao.length Av, .slice Ck Aa.length Cc] 25 (0, 0)) (by (with_reducible repeat (first | refine blk_drewN ?_ _ | refine blk_drew ?_ | refine blk_alloc ?_ _ | refine blk_far ?_ Cj.out _)); (with_reducible repeat (first | refine blk_drewN ?_ _ | refine blk_drew ?_ | refine blk_alloc ?_ _)); exact Ah.out) hb); have Ct := Aside0.mk (blk_below (g := An) (o := .cells #[.slice Bp Bd.length Bo, .slice Bs Bh.length Bq] 25 (0, 0)) (by (with_reducible repeat (first | refine blk_drewN ?_ _ | refine blk_drew ?_ | refine blk_alloc ?_ _)); refine blk_put (cs := #[.slice Bp Bd.length Bo, .slice none 0 0]) ?_ 1 _ rfl; (with_reducible repeat (first | refine blk_drewN ?_ _ | refine blk_drew ?_ | refine blk_alloc ?_ _)); refine blk_put (cs := #[.slice none 0 0, .slice none 0 0]) ?_ 0 _ rfl; (with_reducible repeat (first | refine blk_drewN ?_ _ | refine blk_drew ?_ | refine blk_alloc ?_ _)); exact As.out) hb); have Hh := Aside0.mk (below_step (by repeat (first | (with_reducible first | exact HB.out | apply below_alloc | apply pw_below_drewN | apply below_drew1 | refine below_set ?_ Am.out | refine below_set ?_ Ap.out | refine below_set ?_ Bt.out) | exact HB.out)) hb); clear Af Ad Be Bf Ag Ah As HB; have Af := Ba; have Ad := Bb; have Be := Bg; have Bf := Bi; have Ca := Bk; have Cb := Bn; have Ag := Cg; have Ah := Cr; have As := Ct; have HB := Hh; clear Ba Bb Bg Bi Bk Bn Cg Cr Ct Hh; (try clear hb); (try clear hb2); (try clear hk); (try clear hi); (try clear ho0); (try clear ho1)) | ((with_reducible refine gate_dst (N := 9) rfl ?_); (try (refine gate_guard (by rfl) ?_; dsimp only)); refine box_event ?hg (N := 9) ?hd (cs := #[.slice none 0 0, .slice none 0 0]) (t := 25) ?hr ?_; (case hd => rfl); (case hg => rfl); (case hr => first | (go_simp; done) | (go_simp; rfl)); intro Au hg w164 hbox hb; have Ba := Aside0.mk (Kd.R_below (by (with_reducible repeat (first | apply Kd.R_alloc | apply Kd.R_drewN | apply Kd.R_drew)); exact Af.out) hb); have Bb := Aside0.mk (Kd.R_below (by (with_reducible repeat (first | apply Kd.R_alloc | apply Kd.R_drewN | apply Kd.R_drew)); exact Ad.out) hb); have Bg := Aside0.mk (Kd.R_below (by (with_reducible repeat (first | apply Kd.R_alloc | apply Kd.R_drewN | apply Kd.R_drew)); exact Be.out) hb); have Bi := Aside0.mk (Kd.R_below (by (with_reducible repeat (first | apply Kd.R_alloc | apply Kd.R_drewN | apply Kd.R_drew)); exact Bf.out) hb); have Bk := Aside0.mk (Kd.R_below (by (with_reducible repeat (first | apply Kd.R_alloc | apply Kd.R_drewN | apply Kd.R_drew)); exact Ca.out) hb); have Bn := Aside0.mk (Kd.R_below (by (with_reducible repeat (first | apply Kd.R_alloc | apply Kd.R_drewN | apply Kd.R_drew)); exact Cb.out) hb); have Cg := Aside0.mk (blk_below (g := Al) (o := .cells #[.slice A0_0 l0_0.length c0_0, .slice A0_1 l0_1.length c0_1] 25 (0, 0)) (by (with_reducible repeat (first | refine blk_drewN ?_ _ | refine blk_drew ?_ | refine blk_alloc ?_ _)); exact Ag.out) hb); have Cr := Aside0.mk (blk_below (g := Ak) (o := .cells #[.slice Aw Ao.length Av, .slice Ck Aa.length Cc] 25 (0, 0)) (by (with_reducible repeat (first | refine blk_drewN ?_ _ | refine blk_drew ?_ | refine blk_alloc ?_ _)); exact Ah.out) hb); have Ct := Aside0.mk (blk_below (g := An) (o := .cells #[.slice Bp Bd.length Bo, .slice Bs Bh.length Bq] 25 (0, 0)) (by (with_reducible repeat (first | refine blk_drewN ?_ _ | refine blk_drew ?_ | refine blk_alloc ?_ _)); exact As.out) hb); have Hh := Aside0.mk (below_step (by repeat (first | (with_reducible first | exact HB.out | apply below_alloc | apply pw_below_drewN | apply below_drew1 | refine below_set ?_ Am.out | refine below_set ?_ Ap.out | refine below_set ?_ Bt.out) | exact HB.out)) hb); have n10_ := Aside0.mk (hbox); have n11_ := Aside0.mk ((by rw [hg]; exact (below_size (by repeat (first | (with_reducible first | exact HB.out | apply below_alloc | apply pw_below_drewN | apply below_drew1 | refine below_set ?_ Am.out | refine below_set ?_ Ap.out | refine below_set ?_ Bt.out) | exact HB.out))) : w.heap.size ≤ Au)); have n12_ := Aside0.mk ((by rw [hg]; exact (below_size (by repeat (first | (with_reducible first | exact HB.out | apply below_alloc | apply pw_below_drewN | apply below_drew1 | refine below_set ?_ Am.out | refine below_set ?_ Ap.out | refine below_set ?_ Bt.out) | exact HB.out))) : w.heap.size ≤ Au)); have n13_ := Aside0.mk ((by rw [hg]; exact Nat.ne_of_lt (blk_lt (g := Al) (o := .cells #[.slice A0_0 l0_0.length c0_0, .slice A0_1 l0_1.length c0_1] 25 (0, 0)) (by (with_reducible repeat (first | refine blk_drewN ?_ _ | refine blk_drew ?_ | refine blk_alloc ?_ _)); exact Ag.out)) : Al ≠ Au)); have n14_ := Aside0.mk ((by rw [hg]; exact Nat.ne_of_gt (blk_lt (g := Al) (o := .cells #[.slice A0_0 l0_0.length c0_0, .slice A0_1 l0_1.length c0_1] 25 (0, 0)) (by (with_reducible repeat (first | refine blk_drewN ?_ _ | refine blk_drew ?_ | refine blk_alloc ?_ _)); exact Ag.out)) : Au ≠ Al)); have n15_ := Aside0.mk ((by rw [hg]; exact Nat.ne_of_lt (blk_lt (g := Ak) (o := .cells #[.slice Aw Ao.length Av, .slice Ck Aa.length Cc] 25 (0, 0)) (by (with_reducible repeat (first | refine blk_drewN ?_ _ | refine blk_drew ?_ | refine blk_alloc ?_ _)); exact Ah.out)) : Ak ≠ Au)); have n16_ := Aside0.mk ((by rw [hg]; exact Nat.ne_of_gt (blk_lt (g := Ak) (o := .cells #[.slice Aw Ao.length Av, .slice Ck Aa.length Cc] 25 (0, 0)) (by (with_reducible repeat (first | refine blk_drewN ?_ _ | refine blk_drew ?_ | refine blk_alloc ?_ _)); exact Ah.out)) : Au ≠ Ak)); have n17_ := Aside0.mk ((by rw [hg]; exact Nat.ne_of_lt (blk_lt (g := An) (o := .cells #[.slice Bp Bd.length Bo, .slice Bs Bh.length Bq] 25 (0, 0)) (by (with_reducible repeat (first | refine blk_drewN ?_ _ | refine blk_drew ?_ | refine blk_alloc ?_ _)); exact As.out)) : An ≠ Au)); have n18_ := Aside0.mk ((by rw [hg]; exact Nat.ne_of_gt (blk_lt (g := An) (o := .cells #[.slice Bp Bd.length Bo, .slice Bs Bh.length Bq] 25 (0, 0)) (by (with_reducible repeat (first | refine blk_drewN ?_ _ | refine blk_drew ?_ | refine blk_alloc ?_ _)); exact As.out)) : Au ≠ An)); clear Af Ad Be Bf Ca Cb Ag Ah As HB; have Af := Ba; have Ad := Bb; have Be := Bg; have Bf := Bi; have Ca := Bk; have Cb := Bn; have Ag := Cg; have Ah := Cr; have As := Ct; have HB := Hh; have Bm := n10_; have GW379 := n11_; have Lh := n12_; have Co := n13_; have Da := n14_; have Cp := n15_; have Db := n16_; have Cq := n17_; have Dc := n18_; clear Ba Bb Bg Bi Bk Bn Cg Cr Ct Hh n10_ n11_ n12_ n13_ n14_ n15_ n16_ n17_ n18_; clear hb hbox hg; obtain ⟨Cd, By, eo165⟩ := Kd.R_slice Ca.out; subst eo165; have hnb166 := Da.out; have hnc166 := Co.out; have hnb167 := Db.out; have hnc167 := Cp.out; have hnb168 := Dc.out; have hnc168 := Cq.out; have hcz169_0 : w164.cell? ⟨Au, 0, none⟩ = some (.slice none 0 0) := (blk_cell Bm.out 0).trans rfl; have hcz169_1 : w164.cell? ⟨Au, 1, none⟩ = some (.slice none 0 0) := (blk_cell Bm.out 1).trans rfl; have hfz169_0 := blk_frozen Bm.out 0; have hfz169_1 := blk_frozen Bm.out 1; obtain ⟨Cl, Ce, eo170⟩ := Kd.R_slice Cb.out; subst eo170) | ((with_reducible refine gate_callee (f := 9) rfl ?_); refine goesL_ (some 110) rfl rfl Tryd.func9 (by kernel_rfl) rfl #[.int .i64 Cv] rfl (by (try simp only [List.map_toArray, List.map_cons, List.map_nil]); first | done | rfl | (simp only [List.length_drop, List.length_take]; rfl)) ?_; (with_reducible refine (trammellaw0_Num.calls Cv Df _ A124.out).mono ?_); rintro e w' ⟨rfl, ⟨nd, rfl⟩⟩; refine ⟨_, rfl, ?_⟩; have hcz171_0 : w164.cell? ⟨An, 0, none⟩ = some (.slice Bp Bd.length Bo) := (blk_cell As.out 0).trans rfl; have hcz171_1 : w164.cell? ⟨An, 1, none⟩ = some (.slice Bs Bh.length Bq) := (blk_cell As.out 1).trans rfl; have hfz171_0 := blk_frozen As.out 0; have hfz171_1 := blk_frozen As.out 1) | ((with_reducible refine gate_callee (f := 14) rfl ?_); refine goesL_ (some 114) rfl rfl Tryd.func14 (by kernel_rfl) rfl #[.agg #[.slice Bp Bd.length Bo, .slice Bs Bh.length Bq], .agg #[.slice Cd Ch.length By, .slice Cl Cm.length Ce]] rfl (by (try simp only [List.map_toArray, List.map_cons, List.map_nil]); first | done | rfl | (simp only [List.length_drop, List.length_take]; rfl)) ?_; (with_reducible refine (trammellaw0_SameProgram.calls k1 _ _ Bd _ _ Bh _ _ Ch _ _ Cm true _ ?side1 ?side2 ?side3 ?side4 ?side5 ?side6 ?side7 ?side8 A146.out).mono ?_); (case side1 => refine (Kd.R_reads' (e := 45) (base := w.heap.size) (ok := fun k_ => ((True ∧ some k_ ≠ (.slice Aw Ao.length Av : Value).ownBlock) ∧ some k_ ≠ (.slice Cd Ch.length By : Value).ownBlock)) (n := Bd.length) (c := Bo) ?_).2.2; exact (by (with_reducible repeat (first | apply Kd.R_alloc | apply Kd.R_drewN | apply Kd.R_drew)); exact (Kd.R_mono (Kd.R_far (p := ⟨Au, 1, none⟩) (Kd.R_far (p := ⟨Au, 0, none⟩) (Kd.R_types Be.out Bm.out (by decide)) (fun _ hk => hk.2) (.slice Cd Ch.length By)) (fun _ hk => hk.2) (.slice Cl Cm.length Ce)) (fun _ h_ => h_.1)))); (case side2 => exact (Kd.R_reads' Be.out).2.1); (case side3 => refine (Kd.R_reads' (e := 34) (base := w.heap.size) (ok := fun k_ => ((True ∧ some k_ ≠ (.slice Ck Aa.length Cc : Value).ownBlock) ∧ some k_ ≠ (.slice Cl Cm.length Ce : Value).ownBlock)) (n := Bh.length) (c := Bq) ?_).2.2; exact (by (with_reducible repeat (first | apply Kd.R_alloc | apply Kd.R_drewN | apply Kd.R_drew)); exact (Kd.R_mono (Kd.R_far (p := ⟨Au, 1, none⟩) (Kd.R_far (p := ⟨Au, 0, none⟩) (Kd.R_types Bf.out Bm.out (by decide)) (fun _ hk => hk.2) (.slice Cd Ch.length By)) (fun _ hk => hk.2) (.slice Cl Cm.length Ce)) (fun _ h_ => h_.1)))); (case side4 => exact (Kd.R_reads' Bf.out).2.1); (case side5 => refine (Kd.R_reads' (e := 45) (base := w.heap.size) (ok := fun k_ => ((True ∧ some k_ ≠ (.slice Aw Ao.length Av : Value).ownBlock) ∧ some k_ ≠ (.slice Bp Bd.length Bo : Value).ownBlock)) (n := Ch.length) (c := By) ?_).2.2; exact (by (with_reducible repeat (first | apply Kd.R_alloc | apply Kd.R_drewN | apply Kd.R_drew)); exact (Kd.R_mono (Kd.R_far (p := ⟨Au, 1, none⟩) (Kd.R_far (p := ⟨Au, 0, none⟩) (Kd.R_types Ca.out Bm.out (by decide)) (fun _ hk => hk.2) (.slice Cd Ch.length By)) (fun _ hk => hk.2) (.slice Cl Cm.length Ce)) (fun _ h_ => h_.1)))); (case side6 => exact (Kd.R_reads' Ca.out).2.1); (case side7 => refine (Kd.R_reads' (e := 34) (base := w.heap.size) (ok := fun k_ => ((True ∧ some k_ ≠ (.slice Ck Aa.length Cc : Value).ownBlock) ∧ some k_ ≠ (.slice Bs Bh.length Bq : Value).ownBlock)) (n := Cm.length) (c := Ce) ?_).2.2; exact (by (with_reducible repeat (first | apply Kd.R_alloc | apply Kd.R_drewN | apply Kd.R_drew)); exact (Kd.R_mono (Kd.R_far (p := ⟨Au, 1, none⟩) (Kd.R_far (p := ⟨Au, 0, none⟩) (Kd.R_types Cb.out Bm.out (by decide)) (fun _ hk => hk.2) (.slice Cd Ch.length By)) (fun _ hk => hk.2) (.slice Cl Cm.length Ce)) (fun _ h_ => h_.1)))); (case side8 => exact (Kd.R_reads' Cb.out).2.1); rintro e w172 ⟨rfl, hb⟩; refine ⟨_, rfl, ?_⟩; have Ba := Aside0.mk (Kd.R_below (by (with_reducible repeat (first | apply Kd.R_alloc | apply Kd.R_drewN | apply Kd.R_drew)); exact (Kd.R_mono (Kd.R_far (p := ⟨Au, 1, none⟩) (Kd.R_far (p := ⟨Au, 0, none⟩) (Kd.R_types Af.out Bm.out (by decide)) (fun _ hk => hk.2) (.slice Cd Ch.length By)) (fun _ hk => hk.2) (.slice Cl Cm.length Ce)) (fun _ h_ => h_.1))) hb); have Bb := Aside0.mk (Kd.R_below (by (with_reducible repeat (first | apply Kd.R_alloc | apply Kd.R_drewN | apply Kd.R_drew)); exact (Kd.R_mono (Kd.R_far (p := ⟨Au, 1, none⟩) (Kd.R_far (p := ⟨Au, 0, none⟩) (Kd.R_types Ad.out Bm.out (by decide)) (fun _ hk => hk.2) (.slice Cd Ch.length By)) (fun _ hk => hk.2) (.slice Cl Cm.length Ce)) (fun _ h_ => h_.1))) hb); have Bg := Aside0.mk (Kd.R_below (by (with_reducible repeat (first | apply Kd.R_alloc | apply Kd.R_drewN | apply Kd.R_drew)); exact (Kd.R_mono (Kd.R_far (p := ⟨Au, 1, none⟩) (Kd.R_far (p := ⟨Au, 0, none⟩) (Kd.R_types Be.out Bm.out (by decide)) (fun _ hk => hk.2) (.slice Cd Ch.length By)) (fun _ hk => hk.2) (.slice Cl Cm.length Ce)) (fun _ h_ => h_.1))) hb); have Bi := Aside0.mk (Kd.R_below (by (with_reducible repeat (first | apply Kd.R_alloc | apply Kd.R_drewN | apply Kd.R_drew)); exact (Kd.R_mono (Kd.R_far (p := ⟨Au, 1, none⟩) (Kd.R_far (p := ⟨Au, 0, none⟩) (Kd.R_types Bf.out Bm.out (by decide)) (fun _ hk => hk.2) (.slice Cd Ch.length By)) (fun _ hk => hk.2) (.slice Cl Cm.length Ce)) (fun _ h_ => h_.1))) hb); have Bk := Aside0.mk (Kd.R_below (by (with_reducible repeat (first | apply Kd.R_alloc | apply Kd.R_drewN | apply Kd.R_drew)); exact (Kd.R_mono (Kd.R_far (p := ⟨Au, 1, none⟩) (Kd.R_far (p := ⟨Au, 0, none⟩) (Kd.R_types Ca.out Bm.out (by decide)) (fun _ hk => hk.2) (.slice Cd Ch.length By)) (fun _ hk => hk.2) (.slice Cl Cm.length Ce)) (fun _ h_ => h_.1))) hb); have Bn := Aside0.mk (Kd.R_below (by (with_reducible repeat (first | apply Kd.R_alloc | apply Kd.R_drewN | apply Kd.R_drew)); exact (Kd.R_mono (Kd.R_far (p := ⟨Au, 1, none⟩) (Kd.R_far (p := ⟨Au, 0, none⟩) (Kd.R_types Cb.out Bm.out (by decide)) (fun _ hk => hk.2) (.slice Cd Ch.length By)) (fun _ hk => hk.2) (.slice Cl Cm.length Ce)) (fun _ h_ => h_.1))) hb); have Cg := Aside0.mk (blk_below (g := Al) (o := .cells #[.slice A0_0 l0_0.length c0_0, .slice A0_1 l0_1.length c0_1] 25 (0, 0)) (by (with_reducible repeat (first | refine blk_drewN ?_ _ | refine blk_drew ?_ | refine blk_alloc ?_ _ | refine blk_far ?_ Co.out _)); (with_reducible repeat (first | refine blk_drewN ?_ _ | refine blk_drew ?_ | refine blk_alloc ?_ _)); exact Ag.out) hb); have Cr := Aside0.mk (blk_below (g := Ak) (o := .cells #[.slice Aw Ao.length Av, .slice Ck Aa.length Cc] 25 (0, 0)) (by (with_reducible repeat (first | refine blk_drewN ?_ _ | refine blk_drew ?_ | refine blk_alloc ?_ _ | refine blk_far ?_ Cp.out _)); (with_reducible repeat (first | refine blk_drewN ?_ _ | refine blk_drew ?_ | refine blk_alloc ?_ _)); exact Ah.out) hb); have Ct := Aside0.mk (blk_below (g := An) (o := .cells #[.slice Bp Bd.length Bo, .slice Bs Bh.length Bq] 25 (0, 0)) (by (with_reducible repeat (first | refine blk_drewN ?_ _ | refine blk_drew ?_ | refine blk_alloc ?_ _ | refine blk_far ?_ Cq.out _)); (with_reducible repeat (first | refine blk_drewN ?_ _ | refine blk_drew ?_ | refine blk_alloc ?_ _)); exact As.out) hb); have Hh := Aside0.mk (blk_below (g := Au) (o := .cells #[.slice Cd Ch.length By, .slice Cl Cm.length Ce] 25 (0, 0)) (by (with_reducible repeat (first | refine blk_drewN ?_ _ | refine blk_drew ?_ | refine blk_alloc ?_ _)); refine blk_put (cs := #[.slice Cd Ch.length By, .slice none 0 0]) ?_ 1 _ rfl; (with_reducible repeat (first | refine blk_drewN ?_ _ | refine blk_drew ?_ | refine blk_alloc ?_ _)); refine blk_put (cs := #[.slice none 0 0, .slice none 0 0]) ?_ 0 _ rfl; (with_reducible repeat (first | refine blk_drewN ?_ _ | refine blk_drew ?_ | refine blk_alloc ?_ _)); exact Bm.out) hb); have n10_ := Aside0.mk (below_step (by repeat (first | (with_reducible first | exact HB.out | apply below_alloc | apply pw_below_drewN | apply below_drew1 | refine below_set ?_ Am.out | refine below_set ?_ Ap.out | refine below_set ?_ Bt.out | refine below_set ?_ Lh.out) | exact HB.out)) hb); clear Af Ad Be Bf Ca Cb Ag Ah As Bm HB; have Af := Ba; have Ad := Bb; have Be := Bg; have Bf := Bi; have Ca := Bk; have Cb := Bn; have Ag := Cg; have Ah := Cr; have As := Ct; have Bm := Hh; have HB := n10_; clear Ba Bb Bg Bi Bk Bn Cg Cr Ct Hh n10_; (try clear hb); (try clear hb2); (try clear hk); (try clear hi)) | (go_at_call 9; (with_reducible refine (trammellaw0_Num.calls Cv Cx _ A149.out).mono ?_); rintro e w' ⟨rfl, ⟨nd, rfl⟩⟩) | (go_at_call 9; (with_reducible refine (trammellaw0_Num.calls Kh Cw _ A150.out).mono ?_); rintro e w' ⟨rfl, ⟨nd, rfl⟩⟩))
        go_ret
        exact ⟨by first | rfl | (simp [errW_none, errW_some] <;> rfl) | (simp [*, errW_none, errW_some] <;> rfl), by repeat (first | (with_reducible first | exact HB.out | apply below_alloc | apply pw_below_drewN | apply below_drew1 | refine below_set ?_ Am.out | refine below_set ?_ Ap.out | refine below_set ?_ Bt.out | refine below_set ?_ Lh.out) | exact HB.out)⟩
       ·
        rw [if_neg c148] at H
        have c148b0 : (De == Hi) = false := beq_eq_false_iff_ne.mpr c148
        have c148b1 : (De != Hi) = true := bne_iff_ne.mpr c148
        exact absurd ((Option.some.inj H).trans HTRUE.out) (by decide)
      ·
       replace c147 := Bool.eq_false_iff.mpr c147
       subst c147
       have H1 : (some false) = some r := by rw [if_neg (show ¬ (false = true) by decide)] at H; exact H
       clear H
       have H := H1
       clear H1
       exact absurd ((Option.some.inj H).trans HTRUE.out) (by decide)
 ·
  replace c3 := Bool.eq_false_iff.mpr c3
  subst c3
  have H1 : (some false) = some r := by rw [if_neg (show ¬ (false = true) by decide)] at H; exact H
  clear H
  have H := H1
  clear H1
  exact absurd ((Option.some.inj H).trans HTRUE.out) (by decide)
end Go.Proofs.YtfcjpkkglffnmaaDoor.H
