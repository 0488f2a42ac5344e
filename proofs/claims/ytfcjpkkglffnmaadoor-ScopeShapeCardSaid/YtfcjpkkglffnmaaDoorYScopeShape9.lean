/- Several texts in one: contracts of functions of the program, and what they lean on. In part written by a program of this session over the kit's print, in part by hand. -/
import Derived.Test.YtfcjpkkglffnmaaDoorYScopeShape8
import Derived.Test.YtfcjpkkglffnmaaDoorYScopeShape2
import Derived.Test.YtfcjpkkglffnmaaDoorYScopeShape6
import Derived.Test.YtfcjpkkglffnmaaDoorYScopeShape5
import Derived.Test.YtfcjpkkglffnmaaDoorYScopeShape7
namespace Go.Proofs.YtfcjpkkglffnmaaDoor.H
open Go.RowKit Go.Proofs.YtfcjpkkglffnmaaDoorW.PrintWords Go.Proofs.YtfcjpkkglffnmaaDoorW.PrintLast Go.Proofs.YtfcjpkkglffnmaaDoorW.PrintMore
attribute [local go_sem] max2_int min2_int max_two min_two max_three min_three max_four min_four
set_option linter.unusedVariables false
set_option linter.unusedSimpArgs false
set_option maxHeartbeats 8000000 in
set_option maxRecDepth 100000 in
theorem trammellaw6_ScopeShape.callsT (k : Nat) (A0_0 : Option Addr) (c0_0 : Nat) (l0_0 : List (S45)) (A0_1 : Option Addr) (c0_1 : Nat) (l0_1 : List (S34)) (r : Bool) (w : World) (hr0_0 : Kd.C k45 w A0_0 l0_0.length l0_0) (hc0_0 : l0_0.length ≤ c0_0) (hr0_1 : Kd.C k34 w A0_1 l0_1.length l0_1) (hc0_1 : l0_1.length ≤ c0_1) (htrue : r = true) (h : trammellaw6_ScopeShape.f k l0_0 l0_1 = some r) (hG : Err.ErrTy w) :
    Calls Tryd.prog 3 #[.agg #[.slice A0_0 l0_0.length c0_0, .slice A0_1 l0_1.length c0_1]] w fun e w' => e = .returned (.bool r) ∧ Below w.heap.size w w' := by
  have HG := Aside0.mk hG
  clear hG
  have HTRUE := Aside0.mk htrue
  clear htrue
  have hu25 := Tryd.underlying25
  have hu34 := Tryd.underlying34
  have HR0_0 := Aside0.mk hr0_0
  have HC0_0 := Aside0.mk hc0_0
  clear hr0_0 hc0_0
  have HR0_1 := Aside0.mk hr0_1
  have HC0_1 := Aside0.mk hc0_1
  clear hr0_1 hc0_1
  have HB := Aside0.mk (Below.refl w.heap.size w)
  have H : ((trammellaw6_awake.f k).bind fun t324 => (if t324 = true then ((scope_Resolve.f k l0_0 l0_1).bind fun bt325 => ((trammellaw0_Num.f bt325.2.2.2).bind fun t334 => (if t334 = 0 then ((scope_May.f k bt325.1 bt325.2.1).bind fun t335 => (if t335 = true then (if bt325.2.2.1 = 0 then (if (bt325.2.1.length : Int) = (l0_1.length : Int) then ((trammellaw0_SameOps.f k l0_0 bt325.1).bind fun t336 => (trammellaw6_ScopeShape.j0 k (!t336) l0_0 l0_1 bt325.1 bt325.2.1)) else (trammellaw6_ScopeShape.j0 k true l0_0 l0_1 bt325.1 bt325.2.1)) else (trammellaw6_ScopeShape.j0 k true l0_0 l0_1 bt325.1 bt325.2.1)) else (trammellaw6_ScopeShape.j0 k true l0_0 l0_1 bt325.1 bt325.2.1))) else (if (wrap64 ((bt325.2.1.length : Int) + (bt325.1.length : Int))) = 0 then (some (decide (bt325.2.2.1 ≥ 0))) else (some false))))) else (some false))) = some r := h
  clear h
  replace H := Option.bind_eq_some_iff.mp H
  obtain ⟨t324, A20, H⟩ := H
  replace H : (if t324 = true then ((scope_Resolve.f k l0_0 l0_1).bind fun bt325 => ((trammellaw0_Num.f bt325.2.2.2).bind fun t334 => (if t334 = 0 then ((scope_May.f k bt325.1 bt325.2.1).bind fun t335 => (if t335 = true then (if bt325.2.2.1 = 0 then (if (bt325.2.1.length : Int) = (l0_1.length : Int) then ((trammellaw0_SameOps.f k l0_0 bt325.1).bind fun t336 => (trammellaw6_ScopeShape.j0 k (!t336) l0_0 l0_1 bt325.1 bt325.2.1)) else (trammellaw6_ScopeShape.j0 k true l0_0 l0_1 bt325.1 bt325.2.1)) else (trammellaw6_ScopeShape.j0 k true l0_0 l0_1 bt325.1 bt325.2.1)) else (trammellaw6_ScopeShape.j0 k true l0_0 l0_1 bt325.1 bt325.2.1))) else (if (wrap64 ((bt325.2.1.length : Int) + (bt325.1.length : Int))) = 0 then (some (decide (bt325.2.2.1 ≥ 0))) else (some false))))) else (some false)) = some r := H
  have A2 := Aside0.mk A20
  clear A20
  by_cases c3 : t324 = true
  · subst c3
    have H1 : ((scope_Resolve.f k l0_0 l0_1).bind fun bt325 => ((trammellaw0_Num.f bt325.2.2.2).bind fun t334 => (if t334 = 0 then ((scope_May.f k bt325.1 bt325.2.1).bind fun t335 => (if t335 = true then (if bt325.2.2.1 = 0 then (if (bt325.2.1.length : Int) = (l0_1.length : Int) then ((trammellaw0_SameOps.f k l0_0 bt325.1).bind fun t336 => (trammellaw6_ScopeShape.j0 k (!t336) l0_0 l0_1 bt325.1 bt325.2.1)) else (trammellaw6_ScopeShape.j0 k true l0_0 l0_1 bt325.1 bt325.2.1)) else (trammellaw6_ScopeShape.j0 k true l0_0 l0_1 bt325.1 bt325.2.1)) else (trammellaw6_ScopeShape.j0 k true l0_0 l0_1 bt325.1 bt325.2.1))) else (if (wrap64 ((bt325.2.1.length : Int) + (bt325.1.length : Int))) = 0 then (some (decide (bt325.2.2.1 ≥ 0))) else (some false))))) = some r := by rw [if_pos rfl] at H; exact H
    clear H
    have H := H1
    clear H1
    replace H := Option.bind_eq_some_iff.mp H
    obtain ⟨⟨t325, t328, t331, t332⟩, A40, H⟩ := H
    replace H : ((trammellaw0_Num.f t332).bind fun t334 => (if t334 = 0 then ((scope_May.f k t325 t328).bind fun t335 => (if t335 = true then (if t331 = 0 then (if (t328.length : Int) = (l0_1.length : Int) then ((trammellaw0_SameOps.f k l0_0 t325).bind fun t336 => (trammellaw6_ScopeShape.j0 k (!t336) l0_0 l0_1 t325 t328)) else (trammellaw6_ScopeShape.j0 k true l0_0 l0_1 t325 t328)) else (trammellaw6_ScopeShape.j0 k true l0_0 l0_1 t325 t328)) else (trammellaw6_ScopeShape.j0 k true l0_0 l0_1 t325 t328))) else (if (wrap64 ((t328.length : Int) + (t325.length : Int))) = 0 then (some (decide (t331 ≥ 0))) else (some false)))) = some r := H
    have A4 := Aside0.mk A40
    clear A40
    replace H := Option.bind_eq_some_iff.mp H
    obtain ⟨t334, A50, H⟩ := H
    replace H : (if t334 = 0 then ((scope_May.f k t325 t328).bind fun t335 => (if t335 = true then (if t331 = 0 then (if (t328.length : Int) = (l0_1.length : Int) then ((trammellaw0_SameOps.f k l0_0 t325).bind fun t336 => (trammellaw6_ScopeShape.j0 k (!t336) l0_0 l0_1 t325 t328)) else (trammellaw6_ScopeShape.j0 k true l0_0 l0_1 t325 t328)) else (trammellaw6_ScopeShape.j0 k true l0_0 l0_1 t325 t328)) else (trammellaw6_ScopeShape.j0 k true l0_0 l0_1 t325 t328))) else (if (wrap64 ((t328.length : Int) + (t325.length : Int))) = 0 then (some (decide (t331 ≥ 0))) else (some false))) = some r := H
    have A5 := Aside0.mk A50
    clear A50
    by_cases c6 : t334 = 0
    · rw [if_pos c6] at H
      have c6b0 : (t334 == 0) = true := beq_iff_eq.mpr c6
      have c6b1 : (t334 != 0) = false := bne_eq_false_iff_eq.mpr c6
      clear c6
      have HC7 := Aside0.mk H
      clear H
      go_enter Tryd.func3, Tryd.ntmps3
      go_upto_region 6 with (first | ((with_reducible refine gate_dst (N := 1) rfl ?_); (try (refine gate_guard (by rfl) ?_; dsimp only)); refine box_event ?hg (N := 1) ?hd (cs := #[.slice A0_0 l0_0.length c0_0, .slice A0_1 l0_1.length c0_1]) (t := 25) ?hr ?_; (case hd => rfl); (case hg => rfl); (case hr => first | (go_simp; done) | (go_simp; rfl)); intro gb323 hg w8 hbox hb; have n0_ := Aside0.mk (below_step (by repeat (first | (with_reducible first | exact HB.out | apply below_alloc | apply pw_below_drewN | apply below_drew1) | exact HB.out)) hb); have n1_ := Aside0.mk (hbox); have n2_ := Aside0.mk ((by rw [hg]; exact (below_size (by repeat (first | (with_reducible first | exact HB.out | apply below_alloc | apply pw_below_drewN | apply below_drew1) | exact HB.out))) : w.heap.size ≤ gb323)); have n3_ := Aside0.mk ((by rw [hg]; exact (below_size (by repeat (first | (with_reducible first | exact HB.out | apply below_alloc | apply pw_below_drewN | apply below_drew1) | exact HB.out))) : w.heap.size ≤ gb323)); clear HB; have HB := n0_; have BK323 := n1_; have GW323 := n2_; have GE323 := n3_; clear n0_ n1_ n2_ n3_; clear hb hbox hg) | ((with_reducible refine gate_callee (f := 7) rfl ?_); refine goesL_ (some 9) rfl rfl Tryd.func7 (by kernel_rfl) rfl #[] rfl (by (try simp only [List.map_toArray, List.map_cons, List.map_nil]); first | done | rfl | (simp only [List.length_drop, List.length_take]; rfl)) ?_; (with_reducible refine (trammellaw6_awake.callsT k true _ rfl A2.out (HG.out.below HG.out.lt (by repeat (first | (with_reducible first | exact HB.out | apply below_alloc | apply pw_below_drewN | apply below_drew1 | refine below_set ?_ (Aside0.out (by assumption))) | exact HB.out)))).mono ?_); rintro e w9 ⟨rfl, hb⟩; refine ⟨_, rfl, ?_⟩; have n0_ := Aside0.mk (blk_below (g := gb323) (o := .cells #[.slice A0_0 l0_0.length c0_0, .slice A0_1 l0_1.length c0_1] 25 (0, 0)) (by (with_reducible repeat (first | refine blk_drewN ?_ _ | refine blk_drew ?_ | refine blk_alloc ?_ _)); exact BK323.out) hb); have n1_ := Aside0.mk (below_step (by repeat (first | (with_reducible first | exact HB.out | apply below_alloc | apply pw_below_drewN | apply below_drew1 | refine below_set ?_ GE323.out) | exact HB.out)) hb); clear BK323; clear HB; have BK323 := n0_; have HB := n1_; clear n0_ n1_; (try clear hb); (try clear hb2); (try clear hk); (try clear hi); have hcz10_0 : w9.cell? ⟨gb323, 0, none⟩ = some (.slice A0_0 l0_0.length c0_0) := (blk_cell BK323.out 0).trans rfl; have hcz10_1 : w9.cell? ⟨gb323, 1, none⟩ = some (.slice A0_1 l0_1.length c0_1) := (blk_cell BK323.out 1).trans rfl; have hfz10_0 := blk_frozen BK323.out 0; have hfz10_1 := blk_frozen BK323.out 1) | ((with_reducible refine gate_callee (f := 8) rfl ?_); refine goesL_ (some 13) rfl rfl Tryd.func8 (by kernel_rfl) rfl #[.agg #[.slice A0_0 l0_0.length c0_0, .slice A0_1 l0_1.length c0_1]] rfl (by (try simp only [List.map_toArray, List.map_cons, List.map_nil]); first | done | rfl | (simp only [List.length_drop, List.length_take]; rfl)) ?_; (with_reducible refine (scope_Resolve.calls k _ _ l0_0 _ _ l0_1 t325 t328 t331 t332 _ ?side1 ?side2 ?side3 ?side4 A4.out (HG.out.below HG.out.lt (by repeat (first | (with_reducible first | exact HB.out | apply below_alloc | apply pw_below_drewN | apply below_drew1 | refine below_set ?_ (Aside0.out (by assumption))) | exact HB.out)))).mono ?_); (case side1 => repeat (first | exact (Kd.C_below HR0_0.out HB.out) | (with_reducible refine Kd.C_alloc ?_ _) | (with_reducible refine Kd.C_drewN ?_ _) | (with_reducible refine Kd.C_drew ?_))); (case side2 => exact HC0_0.out); (case side3 => repeat (first | exact (Kd.C_below HR0_1.out HB.out) | (with_reducible refine Kd.C_alloc ?_ _) | (with_reducible refine Kd.C_drewN ?_ _) | (with_reducible refine Kd.C_drew ?_))); (case side4 => exact HC0_1.out); rintro e w11 ⟨v326, v329, rfl, ho0, ho1, hb⟩; refine ⟨_, rfl, ?_⟩; have n0_ := Aside0.mk (Kd.R_lower ho0 (below_size (by repeat (first | (with_reducible first | exact HB.out | apply below_alloc | apply pw_below_drewN | apply below_drew1 | refine below_set ?_ GE323.out) | exact HB.out)))); have n1_ := Aside0.mk (Kd.R_lower ho1 (below_size (by repeat (first | (with_reducible first | exact HB.out | apply below_alloc | apply pw_below_drewN | apply below_drew1 | refine below_set ?_ GE323.out) | exact HB.out)))); have n2_ := Aside0.mk (blk_below (g := gb323) (o := .cells #[.slice A0_0 l0_0.length c0_0, .slice A0_1 l0_1.length c0_1] 25 (0, 0)) (by (with_reducible repeat (first | refine blk_drewN ?_ _ | refine blk_drew ?_ | refine blk_alloc ?_ _)); exact BK323.out) hb); have n3_ := Aside0.mk (below_step (by repeat (first | (with_reducible first | exact HB.out | apply below_alloc | apply pw_below_drewN | apply below_drew1 | refine below_set ?_ GE323.out) | exact HB.out)) hb); clear BK323; clear HB; have HO327 := n0_; have HO330 := n1_; have BK323 := n2_; have HB := n3_; clear n0_ n1_ n2_ n3_; (try clear hb); (try clear hb2); (try clear hk); (try clear hi); (try clear ho0); (try clear ho1)) | ((with_reducible refine gate_dst (N := 3) rfl ?_); (try (refine gate_guard (by rfl) ?_; dsimp only)); refine box_event ?hg (N := 3) ?hd (cs := #[.slice none 0 0, .slice none 0 0]) (t := 25) ?hr ?_; (case hd => rfl); (case hg => rfl); (case hr => first | (go_simp; done) | (go_simp; rfl)); intro gb333 hg w12 hbox hb; have n0_ := Aside0.mk (Kd.R_below (by (with_reducible repeat (first | apply Kd.R_alloc | apply Kd.R_drewN | apply Kd.R_drew)); exact HO327.out) hb); have n1_ := Aside0.mk (Kd.R_below (by (with_reducible repeat (first | apply Kd.R_alloc | apply Kd.R_drewN | apply Kd.R_drew)); exact HO330.out) hb); have n2_ := Aside0.mk (blk_below (g := gb323) (o := .cells #[.slice A0_0 l0_0.length c0_0, .slice A0_1 l0_1.length c0_1] 25 (0, 0)) (by (with_reducible repeat (first | refine blk_drewN ?_ _ | refine blk_drew ?_ | refine blk_alloc ?_ _)); exact BK323.out) hb); have n3_ := Aside0.mk (below_step (by repeat (first | (with_reducible first | exact HB.out | apply below_alloc | apply pw_below_drewN | apply below_drew1 | refine below_set ?_ GE323.out) | exact HB.out)) hb); have n4_ := Aside0.mk (hbox); have n5_ := Aside0.mk ((by rw [hg]; exact (below_size (by repeat (first | (with_reducible first | exact HB.out | apply below_alloc | apply pw_below_drewN | apply below_drew1 | refine below_set ?_ GE323.out) | exact HB.out))) : w.heap.size ≤ gb333)); have n6_ := Aside0.mk ((by rw [hg]; exact (below_size (by repeat (first | (with_reducible first | exact HB.out | apply below_alloc | apply pw_below_drewN | apply below_drew1 | refine below_set ?_ GE323.out) | exact HB.out))) : w.heap.size ≤ gb333)); have n7_ := Aside0.mk ((by rw [hg]; exact Nat.ne_of_lt (blk_lt (g := gb323) (o := .cells #[.slice A0_0 l0_0.length c0_0, .slice A0_1 l0_1.length c0_1] 25 (0, 0)) (by (with_reducible repeat (first | refine blk_drewN ?_ _ | refine blk_drew ?_ | refine blk_alloc ?_ _)); exact BK323.out)) : gb323 ≠ gb333)); have n8_ := Aside0.mk ((by rw [hg]; exact Nat.ne_of_gt (blk_lt (g := gb323) (o := .cells #[.slice A0_0 l0_0.length c0_0, .slice A0_1 l0_1.length c0_1] 25 (0, 0)) (by (with_reducible repeat (first | refine blk_drewN ?_ _ | refine blk_drew ?_ | refine blk_alloc ?_ _)); exact BK323.out)) : gb333 ≠ gb323)); clear HO327; clear HO330; clear BK323; clear HB; have HO327 := n0_; have HO330 := n1_; have BK323 := n2_; have HB := n3_; have BK333 := n4_; have GW333 := n5_; have GE333 := n6_; have NB323_333 := n7_; have NB333_323 := n8_; clear n0_ n1_ n2_ n3_ n4_ n5_ n6_ n7_ n8_; clear hb hbox hg; obtain ⟨Ao13, co13, eo13⟩ := Kd.R_slice HO327.out; subst eo13; have hnb14 := NB333_323.out; have hnc14 := NB323_333.out; have hcz15_0 : w12.cell? ⟨gb333, 0, none⟩ = some (.slice none 0 0) := (blk_cell BK333.out 0).trans rfl; have hcz15_1 : w12.cell? ⟨gb333, 1, none⟩ = some (.slice none 0 0) := (blk_cell BK333.out 1).trans rfl; have hfz15_0 := blk_frozen BK333.out 0; have hfz15_1 := blk_frozen BK333.out 1; obtain ⟨Ao16, co16, eo16⟩ := Kd.R_slice HO330.out; subst eo16) | ((with_reducible refine gate_callee (f := 9) rfl ?_); refine goesL_ (some 18) rfl rfl Tryd.func9 (by kernel_rfl) rfl #[.int .i64 t332] rfl (by (try simp only [List.map_toArray, List.map_cons, List.map_nil]); first | done | rfl | (simp only [List.length_drop, List.length_take]; rfl)) ?_; (with_reducible refine (trammellaw0_Num.calls t332 t334 _ A5.out).mono ?_); rintro e w' ⟨rfl, ⟨nd, rfl⟩⟩; refine ⟨_, rfl, ?_⟩))
      (try simp only [Act.put, List.setIfInBounds_toArray, List.set_cons_zero, List.set_cons_succ])
      go_cut [55] (fun v55 wc => ∃ (kq : Nat) (x55_6 : Bool), v55 = .bool x55_6 ∧ Aside0 (trammellaw6_ScopeShape.j0 kq x55_6 l0_0 l0_1 t325 t328 = some r) ∧ Aside0 (kq ≤ k) ∧ Aside0 (Kd.R k45 45 wc w.heap.size (fun _ => True) (.slice Ao13 t325.length co13) t325) ∧ Aside0 (Kd.R k34 34 wc w.heap.size (fun _ => True) (.slice Ao16 t328.length co16) t328) ∧ Aside0 (wc.heap[gb323]? = some (.cells #[(.slice A0_0 l0_0.length c0_0), (.slice A0_1 l0_1.length c0_1)] 25 (0, 0))) ∧ Aside0 (wc.heap[gb333]? = some (.cells #[(.slice Ao13 t325.length co13), (.slice Ao16 t328.length co16)] 25 (0, 0))) ∧ Aside0 (Below w.heap.size w wc))
      case first =>
        have H := HC7.out
        clear HC7
        replace H := Option.bind_eq_some_iff.mp H
        obtain ⟨t335, A170, H⟩ := H
        replace H : (if t335 = true then (if t331 = 0 then (if (t328.length : Int) = (l0_1.length : Int) then ((trammellaw0_SameOps.f k l0_0 t325).bind fun t336 => (trammellaw6_ScopeShape.j0 k (!t336) l0_0 l0_1 t325 t328)) else (trammellaw6_ScopeShape.j0 k true l0_0 l0_1 t325 t328)) else (trammellaw6_ScopeShape.j0 k true l0_0 l0_1 t325 t328)) else (trammellaw6_ScopeShape.j0 k true l0_0 l0_1 t325 t328)) = some r := H
        have A17 := Aside0.mk A170
        clear A170
        by_cases c18 : t335 = true
        · subst c18
          have H1 : (if t331 = 0 then (if (t328.length : Int) = (l0_1.length : Int) then ((trammellaw0_SameOps.f k l0_0 t325).bind fun t336 => (trammellaw6_ScopeShape.j0 k (!t336) l0_0 l0_1 t325 t328)) else (trammellaw6_ScopeShape.j0 k true l0_0 l0_1 t325 t328)) else (trammellaw6_ScopeShape.j0 k true l0_0 l0_1 t325 t328)) = some r := by rw [if_pos rfl] at H; exact H
          clear H
          have H := H1
          clear H1
          by_cases c19 : t331 = 0
          · rw [if_pos c19] at H
            have c19b0 : (t331 == 0) = true := beq_iff_eq.mpr c19
            have c19b1 : (t331 != 0) = false := bne_eq_false_iff_eq.mpr c19
            clear c19
            (first | rw [c19b0] | (simp only [i64_w, i32_w]; rw [c19b0]) | skip)
            by_cases c20 : (t328.length : Int) = (l0_1.length : Int)
            · rw [if_pos c20] at H
              have c20b0 : ((t328.length : Int) == (l0_1.length : Int)) = true := beq_iff_eq.mpr c20
              have c20b1 : ((t328.length : Int) != (l0_1.length : Int)) = false := bne_eq_false_iff_eq.mpr c20
              have c20b2 : (t328.length == l0_1.length) = true := by first | simpa using c20 | (simp at c20 ⊢; omega)
              clear c20
              replace H := Option.bind_eq_some_iff.mp H
              obtain ⟨t336, A210, H⟩ := H
              replace H : (trammellaw6_ScopeShape.j0 k (!t336) l0_0 l0_1 t325 t328) = some r := H
              have A21 := Aside0.mk A210
              clear A210
              have H' := Aside0.mk H
              clear H
              have hnb22 := NB333_323.out
              have hnc22 := NB323_333.out
              have hcz23_0 : w12.cell? ⟨gb333, 0, none⟩ = some (.slice none 0 0) := (blk_cell BK333.out 0).trans rfl
              have hcz23_1 : w12.cell? ⟨gb333, 1, none⟩ = some (.slice none 0 0) := (blk_cell BK333.out 1).trans rfl
              have hfz23_0 := blk_frozen BK333.out 0
              have hfz23_1 := blk_frozen BK333.out 1
              go_wp2_with (first | ((with_reducible refine gate_callee (f := 10) rfl ?_); refine goesL_ (some 33) rfl rfl Tryd.func10 (by kernel_rfl) rfl #[.agg #[.slice Ao13 t325.length co13, .slice Ao16 t328.length co16]] rfl (by (try simp only [List.map_toArray, List.map_cons, List.map_nil]); first | done | rfl | (simp only [List.length_drop, List.length_take]; rfl)) ?_; (with_reducible refine (scope_May.calls k _ _ t325 _ _ t328 true _ ?side1 ?side2 ?side3 ?side4 A17.out).mono ?_); (case side1 => refine (Kd.R_reads' (e := 45) (base := w.heap.size) (ok := fun k_ => True) (n := t325.length) (c := co13) ?_).2.2; exact (by (with_reducible repeat (first | apply Kd.R_alloc | apply Kd.R_drewN | apply Kd.R_drew)); exact (Kd.R_mono (Kd.R_far (p := ⟨gb333, 1, none⟩) (Kd.R_far (p := ⟨gb333, 0, none⟩) (Kd.R_types HO327.out BK333.out (by decide)) (fun _ hk => hk.2) (.slice Ao13 t325.length co13)) (fun _ hk => hk.2) (.slice Ao16 t328.length co16)) (fun _ h_ => h_.1)))); (case side2 => exact (Kd.R_reads' HO327.out).2.1); (case side3 => refine (Kd.R_reads' (e := 34) (base := w.heap.size) (ok := fun k_ => True) (n := t328.length) (c := co16) ?_).2.2; exact (by (with_reducible repeat (first | apply Kd.R_alloc | apply Kd.R_drewN | apply Kd.R_drew)); exact (Kd.R_mono (Kd.R_far (p := ⟨gb333, 1, none⟩) (Kd.R_far (p := ⟨gb333, 0, none⟩) (Kd.R_types HO330.out BK333.out (by decide)) (fun _ hk => hk.2) (.slice Ao13 t325.length co13)) (fun _ hk => hk.2) (.slice Ao16 t328.length co16)) (fun _ h_ => h_.1)))); (case side4 => exact (Kd.R_reads' HO330.out).2.1); rintro e w24 ⟨rfl, hb⟩; refine ⟨_, rfl, ?_⟩; have n0_ := Aside0.mk (Kd.R_below (by (with_reducible repeat (first | apply Kd.R_alloc | apply Kd.R_drewN | apply Kd.R_drew)); exact (Kd.R_mono (Kd.R_far (p := ⟨gb333, 1, none⟩) (Kd.R_far (p := ⟨gb333, 0, none⟩) (Kd.R_types HO327.out BK333.out (by decide)) (fun _ hk => hk.2) (.slice Ao13 t325.length co13)) (fun _ hk => hk.2) (.slice Ao16 t328.length co16)) (fun _ h_ => h_.1))) hb); have n1_ := Aside0.mk (Kd.R_below (by (with_reducible repeat (first | apply Kd.R_alloc | apply Kd.R_drewN | apply Kd.R_drew)); exact (Kd.R_mono (Kd.R_far (p := ⟨gb333, 1, none⟩) (Kd.R_far (p := ⟨gb333, 0, none⟩) (Kd.R_types HO330.out BK333.out (by decide)) (fun _ hk => hk.2) (.slice Ao13 t325.length co13)) (fun _ hk => hk.2) (.slice Ao16 t328.length co16)) (fun _ h_ => h_.1))) hb); have n2_ := Aside0.mk (blk_below (g := gb323) (o := .cells #[.slice A0_0 l0_0.length c0_0, .slice A0_1 l0_1.length c0_1] 25 (0, 0)) (by (with_reducible repeat (first | refine blk_drewN ?_ _ | refine blk_drew ?_ | refine blk_alloc ?_ _)); refine blk_far ?_ NB323_333.out _; (with_reducible repeat (first | refine blk_drewN ?_ _ | refine blk_drew ?_ | refine blk_alloc ?_ _)); refine blk_far ?_ NB323_333.out _; (with_reducible repeat (first | refine blk_drewN ?_ _ | refine blk_drew ?_ | refine blk_alloc ?_ _)); exact BK323.out) hb); have n3_ := Aside0.mk (blk_below (g := gb333) (o := .cells #[.slice Ao13 t325.length co13, .slice Ao16 t328.length co16] 25 (0, 0)) (by (with_reducible repeat (first | refine blk_drewN ?_ _ | refine blk_drew ?_ | refine blk_alloc ?_ _)); refine blk_put (cs := #[.slice Ao13 t325.length co13, .slice none 0 0]) ?_ 1 _ rfl; (with_reducible repeat (first | refine blk_drewN ?_ _ | refine blk_drew ?_ | refine blk_alloc ?_ _)); refine blk_put (cs := #[.slice none 0 0, .slice none 0 0]) ?_ 0 _ rfl; (with_reducible repeat (first | refine blk_drewN ?_ _ | refine blk_drew ?_ | refine blk_alloc ?_ _)); exact BK333.out) hb); have n4_ := Aside0.mk (below_step (by repeat (first | (with_reducible first | exact HB.out | apply below_alloc | apply pw_below_drewN | apply below_drew1 | refine below_set ?_ GE323.out | refine below_set ?_ GE333.out) | exact HB.out)) hb); clear HO327; clear HO330; clear BK323; clear BK333; clear HB; have HO327 := n0_; have HO330 := n1_; have BK323 := n2_; have BK333 := n3_; have HB := n4_; clear n0_ n1_ n2_ n3_ n4_; (try clear hb); (try clear hb2); (try clear hk); (try clear hi); have hcz25_0 : w24.cell? ⟨gb333, 0, none⟩ = some (.slice Ao13 t325.length co13) := (blk_cell BK333.out 0).trans rfl; have hcz25_1 : w24.cell? ⟨gb333, 1, none⟩ = some (.slice Ao16 t328.length co16) := (blk_cell BK333.out 1).trans rfl; have hfz25_0 := blk_frozen BK333.out 0; have hfz25_1 := blk_frozen BK333.out 1; have hcz26_0 : w24.cell? ⟨gb323, 0, none⟩ = some (.slice A0_0 l0_0.length c0_0) := (blk_cell BK323.out 0).trans rfl; have hcz26_1 : w24.cell? ⟨gb323, 1, none⟩ = some (.slice A0_1 l0_1.length c0_1) := (blk_cell BK323.out 1).trans rfl; have hfz26_0 := blk_frozen BK323.out 0; have hfz26_1 := blk_frozen BK323.out 1) | (go_at_call 11; (with_reducible refine (trammellaw0_SameOps.calls k _ _ l0_0 _ _ t325 t336 _ ?side1 ?side2 ?side3 ?side4 A21.out).mono ?_); (case side1 => repeat (first | exact (Kd.C_below HR0_0.out HB.out) | (with_reducible refine Kd.C_alloc ?_ _) | (with_reducible refine Kd.C_drewN ?_ _) | (with_reducible refine Kd.C_drew ?_))); (case side2 => exact HC0_0.out); (case side3 => repeat (first | exact (Kd.R_reads' HO327.out).2.2 | (with_reducible refine Kd.C_alloc ?_ _) | (with_reducible refine Kd.C_drewN ?_ _) | (with_reducible refine Kd.C_drew ?_))); (case side4 => exact (Kd.R_reads' HO327.out).2.1); rintro e w' ⟨rfl, ⟨nd, rfl⟩⟩))
              go_meet
              case rel => exact ⟨_, (!t336), (by first | rfl | (simp; done) | (simp [*]; done)), H', ⟨by first | omega | exact Nat.le_refl _⟩, ⟨by (with_reducible repeat (first | apply Kd.R_alloc | apply Kd.R_drewN | apply Kd.R_drew)); exact HO327.out⟩, ⟨by (with_reducible repeat (first | apply Kd.R_alloc | apply Kd.R_drewN | apply Kd.R_drew)); exact HO330.out⟩, ⟨by (with_reducible repeat (first | refine blk_drewN ?_ _ | refine blk_drew ?_ | refine blk_alloc ?_ _)); exact BK323.out⟩, ⟨by (with_reducible repeat (first | refine blk_drewN ?_ _ | refine blk_drew ?_ | refine blk_alloc ?_ _)); exact BK333.out⟩, ⟨by repeat (first | (with_reducible first | exact HB.out | apply below_alloc | apply pw_below_drewN | apply below_drew1 | refine below_set ?_ GE323.out | refine below_set ?_ GE333.out) | exact HB.out)⟩⟩
            · rw [if_neg c20] at H
              have c20b0 : ((t328.length : Int) == (l0_1.length : Int)) = false := beq_eq_false_iff_ne.mpr c20
              have c20b1 : ((t328.length : Int) != (l0_1.length : Int)) = true := bne_iff_ne.mpr c20
              have c20b2 : (t328.length == l0_1.length) = false := by first | simpa using c20 | (simp at c20 ⊢; omega)
              have H' := Aside0.mk H
              clear H
              have hnb27 := NB333_323.out
              have hnc27 := NB323_333.out
              have hcz28_0 : w12.cell? ⟨gb333, 0, none⟩ = some (.slice none 0 0) := (blk_cell BK333.out 0).trans rfl
              have hcz28_1 : w12.cell? ⟨gb333, 1, none⟩ = some (.slice none 0 0) := (blk_cell BK333.out 1).trans rfl
              have hfz28_0 := blk_frozen BK333.out 0
              have hfz28_1 := blk_frozen BK333.out 1
              go_wp2_with (first | ((with_reducible refine gate_callee (f := 10) rfl ?_); refine goesL_ (some 33) rfl rfl Tryd.func10 (by kernel_rfl) rfl #[.agg #[.slice Ao13 t325.length co13, .slice Ao16 t328.length co16]] rfl (by (try simp only [List.map_toArray, List.map_cons, List.map_nil]); first | done | rfl | (simp only [List.length_drop, List.length_take]; rfl)) ?_; (with_reducible refine (scope_May.calls k _ _ t325 _ _ t328 true _ ?side1 ?side2 ?side3 ?side4 A17.out).mono ?_); (case side1 => refine (Kd.R_reads' (e := 45) (base := w.heap.size) (ok := fun k_ => True) (n := t325.length) (c := co13) ?_).2.2; exact (by (with_reducible repeat (first | apply Kd.R_alloc | apply Kd.R_drewN | apply Kd.R_drew)); exact (Kd.R_mono (Kd.R_far (p := ⟨gb333, 1, none⟩) (Kd.R_far (p := ⟨gb333, 0, none⟩) (Kd.R_types HO327.out BK333.out (by decide)) (fun _ hk => hk.2) (.slice Ao13 t325.length co13)) (fun _ hk => hk.2) (.slice Ao16 t328.length co16)) (fun _ h_ => h_.1)))); (case side2 => exact (Kd.R_reads' HO327.out).2.1); (case side3 => refine (Kd.R_reads' (e := 34) (base := w.heap.size) (ok := fun k_ => True) (n := t328.length) (c := co16) ?_).2.2; exact (by (with_reducible repeat (first | apply Kd.R_alloc | apply Kd.R_drewN | apply Kd.R_drew)); exact (Kd.R_mono (Kd.R_far (p := ⟨gb333, 1, none⟩) (Kd.R_far (p := ⟨gb333, 0, none⟩) (Kd.R_types HO330.out BK333.out (by decide)) (fun _ hk => hk.2) (.slice Ao13 t325.length co13)) (fun _ hk => hk.2) (.slice Ao16 t328.length co16)) (fun _ h_ => h_.1)))); (case side4 => exact (Kd.R_reads' HO330.out).2.1); rintro e w29 ⟨rfl, hb⟩; refine ⟨_, rfl, ?_⟩; have n0_ := Aside0.mk (Kd.R_below (by (with_reducible repeat (first | apply Kd.R_alloc | apply Kd.R_drewN | apply Kd.R_drew)); exact (Kd.R_mono (Kd.R_far (p := ⟨gb333, 1, none⟩) (Kd.R_far (p := ⟨gb333, 0, none⟩) (Kd.R_types HO327.out BK333.out (by decide)) (fun _ hk => hk.2) (.slice Ao13 t325.length co13)) (fun _ hk => hk.2) (.slice Ao16 t328.length co16)) (fun _ h_ => h_.1))) hb); have n1_ := Aside0.mk (Kd.R_below (by (with_reducible repeat (first | apply Kd.R_alloc | apply Kd.R_drewN | apply Kd.R_drew)); exact (Kd.R_mono (Kd.R_far (p := ⟨gb333, 1, none⟩) (Kd.R_far (p := ⟨gb333, 0, none⟩) (Kd.R_types HO330.out BK333.out (by decide)) (fun _ hk => hk.2) (.slice Ao13 t325.length co13)) (fun _ hk => hk.2) (.slice Ao16 t328.length co16)) (fun _ h_ => h_.1))) hb); have n2_ := Aside0.mk (blk_below (g := gb323) (o := .cells #[.slice A0_0 l0_0.length c0_0, .slice A0_1 l0_1.length c0_1] 25 (0, 0)) (by (with_reducible repeat (first | refine blk_drewN ?_ _ | refine blk_drew ?_ | refine blk_alloc ?_ _)); refine blk_far ?_ NB323_333.out _; (with_reducible repeat (first | refine blk_drewN ?_ _ | refine blk_drew ?_ | refine blk_alloc ?_ _)); refine blk_far ?_ NB323_333.out _; (with_reducible repeat (first | refine blk_drewN ?_ _ | refine blk_drew ?_ | refine blk_alloc ?_ _)); exact BK323.out) hb); have n3_ := Aside0.mk (blk_below (g := gb333) (o := .cells #[.slice Ao13 t325.length co13, .slice Ao16 t328.length co16] 25 (0, 0)) (by (with_reducible repeat (first | refine blk_drewN ?_ _ | refine blk_drew ?_ | refine blk_alloc ?_ _)); refine blk_put (cs := #[.slice Ao13 t325.length co13, .slice none 0 0]) ?_ 1 _ rfl; (with_reducible repeat (first | refine blk_drewN ?_ _ | refine blk_drew ?_ | refine blk_alloc ?_ _)); refine blk_put (cs := #[.slice none 0 0, .slice none 0 0]) ?_ 0 _ rfl; (with_reducible repeat (first | refine blk_drewN ?_ _ | refine blk_drew ?_ | refine blk_alloc ?_ _)); exact BK333.out) hb); have n4_ := Aside0.mk (below_step (by repeat (first | (with_reducible first | exact HB.out | apply below_alloc | apply pw_below_drewN | apply below_drew1 | refine below_set ?_ GE323.out | refine below_set ?_ GE333.out) | exact HB.out)) hb); clear HO327; clear HO330; clear BK323; clear BK333; clear HB; have HO327 := n0_; have HO330 := n1_; have BK323 := n2_; have BK333 := n3_; have HB := n4_; clear n0_ n1_ n2_ n3_ n4_; (try clear hb); (try clear hb2); (try clear hk); (try clear hi); have hcz30_0 : w29.cell? ⟨gb333, 0, none⟩ = some (.slice Ao13 t325.length co13) := (blk_cell BK333.out 0).trans rfl; have hcz30_1 : w29.cell? ⟨gb333, 1, none⟩ = some (.slice Ao16 t328.length co16) := (blk_cell BK333.out 1).trans rfl; have hfz30_0 := blk_frozen BK333.out 0; have hfz30_1 := blk_frozen BK333.out 1; have hcz31_0 : w29.cell? ⟨gb323, 0, none⟩ = some (.slice A0_0 l0_0.length c0_0) := (blk_cell BK323.out 0).trans rfl; have hcz31_1 : w29.cell? ⟨gb323, 1, none⟩ = some (.slice A0_1 l0_1.length c0_1) := (blk_cell BK323.out 1).trans rfl; have hfz31_0 := blk_frozen BK323.out 0; have hfz31_1 := blk_frozen BK323.out 1))
              go_meet
              case rel => exact ⟨_, (true), (by first | rfl | (simp; done) | (simp [*]; done)), H', ⟨by first | omega | exact Nat.le_refl _⟩, ⟨by (with_reducible repeat (first | apply Kd.R_alloc | apply Kd.R_drewN | apply Kd.R_drew)); exact HO327.out⟩, ⟨by (with_reducible repeat (first | apply Kd.R_alloc | apply Kd.R_drewN | apply Kd.R_drew)); exact HO330.out⟩, ⟨by (with_reducible repeat (first | refine blk_drewN ?_ _ | refine blk_drew ?_ | refine blk_alloc ?_ _)); exact BK323.out⟩, ⟨by (with_reducible repeat (first | refine blk_drewN ?_ _ | refine blk_drew ?_ | refine blk_alloc ?_ _)); exact BK333.out⟩, ⟨by repeat (first | (with_reducible first | exact HB.out | apply below_alloc | apply pw_below_drewN | apply below_drew1 | refine below_set ?_ GE323.out | refine below_set ?_ GE333.out) | exact HB.out)⟩⟩
          · rw [if_neg c19] at H
            have c19b0 : (t331 == 0) = false := beq_eq_false_iff_ne.mpr c19
            have c19b1 : (t331 != 0) = true := bne_iff_ne.mpr c19
            (first | rw [c19b0] | (simp only [i64_w, i32_w]; rw [c19b0]) | skip)
            have H' := Aside0.mk H
            clear H
            have hnb32 := NB333_323.out
            have hnc32 := NB323_333.out
            have hcz33_0 : w12.cell? ⟨gb333, 0, none⟩ = some (.slice none 0 0) := (blk_cell BK333.out 0).trans rfl
            have hcz33_1 : w12.cell? ⟨gb333, 1, none⟩ = some (.slice none 0 0) := (blk_cell BK333.out 1).trans rfl
            have hfz33_0 := blk_frozen BK333.out 0
            have hfz33_1 := blk_frozen BK333.out 1
            go_wp2_with (first | ((with_reducible refine gate_callee (f := 10) rfl ?_); refine goesL_ (some 33) rfl rfl Tryd.func10 (by kernel_rfl) rfl #[.agg #[.slice Ao13 t325.length co13, .slice Ao16 t328.length co16]] rfl (by (try simp only [List.map_toArray, List.map_cons, List.map_nil]); first | done | rfl | (simp only [List.length_drop, List.length_take]; rfl)) ?_; (with_reducible refine (scope_May.calls k _ _ t325 _ _ t328 true _ ?side1 ?side2 ?side3 ?side4 A17.out).mono ?_); (case side1 => refine (Kd.R_reads' (e := 45) (base := w.heap.size) (ok := fun k_ => True) (n := t325.length) (c := co13) ?_).2.2; exact (by (with_reducible repeat (first | apply Kd.R_alloc | apply Kd.R_drewN | apply Kd.R_drew)); exact (Kd.R_mono (Kd.R_far (p := ⟨gb333, 1, none⟩) (Kd.R_far (p := ⟨gb333, 0, none⟩) (Kd.R_types HO327.out BK333.out (by decide)) (fun _ hk => hk.2) (.slice Ao13 t325.length co13)) (fun _ hk => hk.2) (.slice Ao16 t328.length co16)) (fun _ h_ => h_.1)))); (case side2 => exact (Kd.R_reads' HO327.out).2.1); (case side3 => refine (Kd.R_reads' (e := 34) (base := w.heap.size) (ok := fun k_ => True) (n := t328.length) (c := co16) ?_).2.2; exact (by (with_reducible repeat (first | apply Kd.R_alloc | apply Kd.R_drewN | apply Kd.R_drew)); exact (Kd.R_mono (Kd.R_far (p := ⟨gb333, 1, none⟩) (Kd.R_far (p := ⟨gb333, 0, none⟩) (Kd.R_types HO330.out BK333.out (by decide)) (fun _ hk => hk.2) (.slice Ao13 t325.length co13)) (fun _ hk => hk.2) (.slice Ao16 t328.length co16)) (fun _ h_ => h_.1)))); (case side4 => exact (Kd.R_reads' HO330.out).2.1); rintro e w34 ⟨rfl, hb⟩; refine ⟨_, rfl, ?_⟩; have n0_ := Aside0.mk (Kd.R_below (by (with_reducible repeat (first | apply Kd.R_alloc | apply Kd.R_drewN | apply Kd.R_drew)); exact (Kd.R_mono (Kd.R_far (p := ⟨gb333, 1, none⟩) (Kd.R_far (p := ⟨gb333, 0, none⟩) (Kd.R_types HO327.out BK333.out (by decide)) (fun _ hk => hk.2) (.slice Ao13 t325.length co13)) (fun _ hk => hk.2) (.slice Ao16 t328.length co16)) (fun _ h_ => h_.1))) hb); have n1_ := Aside0.mk (Kd.R_below (by (with_reducible repeat (first | apply Kd.R_alloc | apply Kd.R_drewN | apply Kd.R_drew)); exact (Kd.R_mono (Kd.R_far (p := ⟨gb333, 1, none⟩) (Kd.R_far (p := ⟨gb333, 0, none⟩) (Kd.R_types HO330.out BK333.out (by decide)) (fun _ hk => hk.2) (.slice Ao13 t325.length co13)) (fun _ hk => hk.2) (.slice Ao16 t328.length co16)) (fun _ h_ => h_.1))) hb); have n2_ := Aside0.mk (blk_below (g := gb323) (o := .cells #[.slice A0_0 l0_0.length c0_0, .slice A0_1 l0_1.length c0_1] 25 (0, 0)) (by (with_reducible repeat (first | refine blk_drewN ?_ _ | refine blk_drew ?_ | refine blk_alloc ?_ _)); refine blk_far ?_ NB323_333.out _; (with_reducible repeat (first | refine blk_drewN ?_ _ | refine blk_drew ?_ | refine blk_alloc ?_ _)); refine blk_far ?_ NB323_333.out _; (with_reducible repeat (first | refine blk_drewN ?_ _ | refine blk_drew ?_ | refine blk_alloc ?_ _)); exact BK323.out) hb); have n3_ := Aside0.mk (blk_below (g := gb333) (o := .cells #[.slice Ao13 t325.length co13, .slice Ao16 t328.length co16] 25 (0, 0)) (by (with_reducible repeat (first | refine blk_drewN ?_ _ | refine blk_drew ?_ | refine blk_alloc ?_ _)); refine blk_put (cs := #[.slice Ao13 t325.length co13, .slice none 0 0]) ?_ 1 _ rfl; (with_reducible repeat (first | refine blk_drewN ?_ _ | refine blk_drew ?_ | refine blk_alloc ?_ _)); refine blk_put (cs := #[.slice none 0 0, .slice none 0 0]) ?_ 0 _ rfl; (with_reducible repeat (first | refine blk_drewN ?_ _ | refine blk_drew ?_ | refine blk_alloc ?_ _)); exact BK333.out) hb); have n4_ := Aside0.mk (below_step (by repeat (first | (with_reducible first | exact HB.out | apply below_alloc | apply pw_below_drewN | apply below_drew1 | refine below_set ?_ GE323.out | refine below_set ?_ GE333.out) | exact HB.out)) hb); clear HO327; clear HO330; clear BK323; clear BK333; clear HB; have HO327 := n0_; have HO330 := n1_; have BK323 := n2_; have BK333 := n3_; have HB := n4_; clear n0_ n1_ n2_ n3_ n4_; (try clear hb); (try clear hb2); (try clear hk); (try clear hi)))
            go_meet
            case rel => exact ⟨_, (true), (by first | rfl | (simp; done) | (simp [*]; done)), H', ⟨by first | omega | exact Nat.le_refl _⟩, ⟨by (with_reducible repeat (first | apply Kd.R_alloc | apply Kd.R_drewN | apply Kd.R_drew)); exact HO327.out⟩, ⟨by (with_reducible repeat (first | apply Kd.R_alloc | apply Kd.R_drewN | apply Kd.R_drew)); exact HO330.out⟩, ⟨by (with_reducible repeat (first | refine blk_drewN ?_ _ | refine blk_drew ?_ | refine blk_alloc ?_ _)); exact BK323.out⟩, ⟨by (with_reducible repeat (first | refine blk_drewN ?_ _ | refine blk_drew ?_ | refine blk_alloc ?_ _)); exact BK333.out⟩, ⟨by repeat (first | (with_reducible first | exact HB.out | apply below_alloc | apply pw_below_drewN | apply below_drew1 | refine below_set ?_ GE323.out | refine below_set ?_ GE333.out) | exact HB.out)⟩⟩
        · replace c18 := Bool.eq_false_iff.mpr c18
          subst c18
          have H1 : (trammellaw6_ScopeShape.j0 k true l0_0 l0_1 t325 t328) = some r := by rw [if_neg (show ¬ (false = true) by decide)] at H; exact H
          clear H
          have H := H1
          clear H1
          have H' := Aside0.mk H
          clear H
          have hnb35 := NB333_323.out
          have hnc35 := NB323_333.out
          have hcz36_0 : w12.cell? ⟨gb333, 0, none⟩ = some (.slice none 0 0) := (blk_cell BK333.out 0).trans rfl
          have hcz36_1 : w12.cell? ⟨gb333, 1, none⟩ = some (.slice none 0 0) := (blk_cell BK333.out 1).trans rfl
          have hfz36_0 := blk_frozen BK333.out 0
          have hfz36_1 := blk_frozen BK333.out 1
          go_wp2_with (first | ((with_reducible refine gate_callee (f := 10) rfl ?_); refine goesL_ (some 33) rfl rfl Tryd.func10 (by kernel_rfl) rfl #[.agg #[.slice Ao13 t325.length co13, .slice Ao16 t328.length co16]] rfl (by (try simp only [List.map_toArray, List.map_cons, List.map_nil]); first | done | rfl | (simp only [List.length_drop, List.length_take]; rfl)) ?_; (with_reducible refine (scope_May.calls k _ _ t325 _ _ t328 false _ ?side1 ?side2 ?side3 ?side4 A17.out).mono ?_); (case side1 => refine (Kd.R_reads' (e := 45) (base := w.heap.size) (ok := fun k_ => True) (n := t325.length) (c := co13) ?_).2.2; exact (by (with_reducible repeat (first | apply Kd.R_alloc | apply Kd.R_drewN | apply Kd.R_drew)); exact (Kd.R_mono (Kd.R_far (p := ⟨gb333, 1, none⟩) (Kd.R_far (p := ⟨gb333, 0, none⟩) (Kd.R_types HO327.out BK333.out (by decide)) (fun _ hk => hk.2) (.slice Ao13 t325.length co13)) (fun _ hk => hk.2) (.slice Ao16 t328.length co16)) (fun _ h_ => h_.1)))); (case side2 => exact (Kd.R_reads' HO327.out).2.1); (case side3 => refine (Kd.R_reads' (e := 34) (base := w.heap.size) (ok := fun k_ => True) (n := t328.length) (c := co16) ?_).2.2; exact (by (with_reducible repeat (first | apply Kd.R_alloc | apply Kd.R_drewN | apply Kd.R_drew)); exact (Kd.R_mono (Kd.R_far (p := ⟨gb333, 1, none⟩) (Kd.R_far (p := ⟨gb333, 0, none⟩) (Kd.R_types HO330.out BK333.out (by decide)) (fun _ hk => hk.2) (.slice Ao13 t325.length co13)) (fun _ hk => hk.2) (.slice Ao16 t328.length co16)) (fun _ h_ => h_.1)))); (case side4 => exact (Kd.R_reads' HO330.out).2.1); rintro e w37 ⟨rfl, hb⟩; refine ⟨_, rfl, ?_⟩; have n0_ := Aside0.mk (Kd.R_below (by (with_reducible repeat (first | apply Kd.R_alloc | apply Kd.R_drewN | apply Kd.R_drew)); exact (Kd.R_mono (Kd.R_far (p := ⟨gb333, 1, none⟩) (Kd.R_far (p := ⟨gb333, 0, none⟩) (Kd.R_types HO327.out BK333.out (by decide)) (fun _ hk => hk.2) (.slice Ao13 t325.length co13)) (fun _ hk => hk.2) (.slice Ao16 t328.length co16)) (fun _ h_ => h_.1))) hb); have n1_ := Aside0.mk (Kd.R_below (by (with_reducible repeat (first | apply Kd.R_alloc | apply Kd.R_drewN | apply Kd.R_drew)); exact (Kd.R_mono (Kd.R_far (p := ⟨gb333, 1, none⟩) (Kd.R_far (p := ⟨gb333, 0, none⟩) (Kd.R_types HO330.out BK333.out (by decide)) (fun _ hk => hk.2) (.slice Ao13 t325.length co13)) (fun _ hk => hk.2) (.slice Ao16 t328.length co16)) (fun _ h_ => h_.1))) hb); have n2_ := Aside0.mk (blk_below (g := gb323) (o := .cells #[.slice A0_0 l0_0.length c0_0, .slice A0_1 l0_1.length c0_1] 25 (0, 0)) (by (with_reducible repeat (first | refine blk_drewN ?_ _ | refine blk_drew ?_ | refine blk_alloc ?_ _)); refine blk_far ?_ NB323_333.out _; (with_reducible repeat (first | refine blk_drewN ?_ _ | refine blk_drew ?_ | refine blk_alloc ?_ _)); refine blk_far ?_ NB323_333.out _; (with_reducible repeat (first | refine blk_drewN ?_ _ | refine blk_drew ?_ | refine blk_alloc ?_ _)); exact BK323.out) hb); have n3_ := Aside0.mk (blk_below (g := gb333) (o := .cells #[.slice Ao13 t325.length co13, .slice Ao16 t328.length co16] 25 (0, 0)) (by (with_reducible repeat (first | refine blk_drewN ?_ _ | refine blk_drew ?_ | refine blk_alloc ?_ _)); refine blk_put (cs := #[.slice Ao13 t325.length co13, .slice none 0 0]) ?_ 1 _ rfl; (with_reducible repeat (first | refine blk_drewN ?_ _ | refine blk_drew ?_ | refine blk_alloc ?_ _)); refine blk_put (cs := #[.slice none 0 0, .slice none 0 0]) ?_ 0 _ rfl; (with_reducible repeat (first | refine blk_drewN ?_ _ | refine blk_drew ?_ | refine blk_alloc ?_ _)); exact BK333.out) hb); have n4_ := Aside0.mk (below_step (by repeat (first | (with_reducible first | exact HB.out | apply below_alloc | apply pw_below_drewN | apply below_drew1 | refine below_set ?_ GE323.out | refine below_set ?_ GE333.out) | exact HB.out)) hb); clear HO327; clear HO330; clear BK323; clear BK333; clear HB; have HO327 := n0_; have HO330 := n1_; have BK323 := n2_; have BK333 := n3_; have HB := n4_; clear n0_ n1_ n2_ n3_ n4_; (try clear hb); (try clear hb2); (try clear hk); (try clear hi)))
          go_meet
          case rel => exact ⟨_, (true), (by first | rfl | (simp; done) | (simp [*]; done)), H', ⟨by first | omega | exact Nat.le_refl _⟩, ⟨by (with_reducible repeat (first | apply Kd.R_alloc | apply Kd.R_drewN | apply Kd.R_drew)); exact HO327.out⟩, ⟨by (with_reducible repeat (first | apply Kd.R_alloc | apply Kd.R_drewN | apply Kd.R_drew)); exact HO330.out⟩, ⟨by (with_reducible repeat (first | refine blk_drewN ?_ _ | refine blk_drew ?_ | refine blk_alloc ?_ _)); exact BK323.out⟩, ⟨by (with_reducible repeat (first | refine blk_drewN ?_ _ | refine blk_drew ?_ | refine blk_alloc ?_ _)); exact BK333.out⟩, ⟨by repeat (first | (with_reducible first | exact HB.out | apply below_alloc | apply pw_below_drewN | apply below_drew1 | refine below_set ?_ GE323.out | refine below_set ?_ GE333.out) | exact HB.out)⟩⟩
      case rest =>
        clear HC7
        try clear c1
        try clear c2
        try clear p2
        try clear c3
        try clear c6
        try clear c6b0
        try clear c6b1
        try clear p6
        try clear c7
        try clear c8
        try clear c9
        try clear c10
        try clear c14
        try clear c18
        try clear c19
        try clear c19b0
        try clear c19b1
        try clear c20
        try clear c20b0
        try clear c20b1
        try clear c20b2
        try clear c22
        try clear c27
        try clear c32
        try clear c35
        try clear hcz10_0
        try clear hcz10_1
        try clear hcz15_0
        try clear hcz15_1
        try clear hcz23_0
        try clear hcz23_1
        try clear hcz25_0
        try clear hcz25_1
        try clear hcz26_0
        try clear hcz26_1
        try clear hcz28_0
        try clear hcz28_1
        try clear hcz30_0
        try clear hcz30_1
        try clear hcz31_0
        try clear hcz31_1
        try clear hcz33_0
        try clear hcz33_1
        try clear hcz36_0
        try clear hcz36_1
        try clear hfz10_0
        try clear hfz10_1
        try clear hfz15_0
        try clear hfz15_1
        try clear hfz23_0
        try clear hfz23_1
        try clear hfz25_0
        try clear hfz25_1
        try clear hfz26_0
        try clear hfz26_1
        try clear hfz28_0
        try clear hfz28_1
        try clear hfz30_0
        try clear hfz30_1
        try clear hfz31_0
        try clear hfz31_1
        try clear hfz33_0
        try clear hfz33_1
        try clear hfz36_0
        try clear hfz36_1
        obtain ⟨kq, x55_6, rfl, HA, HJ6, HO_334000, HO_334001, BK323, BK333, HB⟩ := hcut
        cases kq with
        | zero => exact absurd HA.out (by simp [trammellaw6_ScopeShape.j0])
        | succ kj6 =>
          have H := HA.out
          clear HA
          simp only [trammellaw6_ScopeShape.j0] at H
          by_cases c38 : x55_6 = true
          · subst c38
            have H1 : (some false) = some r := by rw [if_pos rfl] at H; exact H
            clear H
            have H := H1
            clear H1
            exact absurd ((Option.some.inj H).trans HTRUE.out) (by decide)
          · replace c38 := Bool.eq_false_iff.mpr c38
            subst c38
            have H1 : (trammellaw6_ScopeShape.l0 kj6 0 l0_0 l0_1 t325 t328) = some r := by rw [if_neg (show ¬ (false = true) by decide)] at H; exact H
            clear H
            have H := H1
            clear H1
            have H' := Aside0.mk H
            clear H
            go_wp2
            go_loopg [6] kj6 (fun kq v6 w' => ∃ (x6_2 : Int), v6 = .int .i64 x6_2 ∧ Aside0 (trammellaw6_ScopeShape.l0 kq x6_2 l0_0 l0_1 t325 t328 = some r) ∧ Aside0 (kq ≤ kj6) ∧ Aside0 (Kd.R k45 45 w' w.heap.size (fun _ => True) (.slice Ao13 t325.length co13) t325) ∧ Aside0 (Kd.R k34 34 w' w.heap.size (fun _ => True) (.slice Ao16 t328.length co16) t328) ∧ Aside0 (w'.heap[gb323]? = some (.cells #[(.slice A0_0 l0_0.length c0_0), (.slice A0_1 l0_1.length c0_1)] 25 (0, 0))) ∧ Aside0 (w'.heap[gb333]? = some (.cells #[(.slice Ao13 t325.length co13), (.slice Ao16 t328.length co16)] 25 (0, 0))) ∧ Aside0 (Below w.heap.size w w'))
            case atStart => exact ⟨(0), (by first | rfl | (simp; done) | (simp [*]; done)), H', ⟨Nat.le_refl _⟩, ⟨by (with_reducible repeat (first | apply Kd.R_alloc | apply Kd.R_drewN | apply Kd.R_drew)); exact HO_334000.out⟩, ⟨by (with_reducible repeat (first | apply Kd.R_alloc | apply Kd.R_drewN | apply Kd.R_drew)); exact HO_334001.out⟩, ⟨by (with_reducible repeat (first | refine blk_drewN ?_ _ | refine blk_drew ?_ | refine blk_alloc ?_ _)); exact BK323.out⟩, ⟨by (with_reducible repeat (first | refine blk_drewN ?_ _ | refine blk_drew ?_ | refine blk_alloc ?_ _)); exact BK333.out⟩, ⟨by repeat (first | (with_reducible first | exact HB.out | apply below_alloc | apply pw_below_drewN | apply below_drew1 | refine below_set ?_ GE323.out | refine below_set ?_ GE333.out) | exact HB.out)⟩⟩
            case round =>
              clear H'
              try clear c1
              try clear c2
              try clear p2
              try clear c3
              try clear c6
              try clear c6b0
              try clear c6b1
              try clear p6
              try clear c7
              try clear c8
              try clear c9
              try clear c10
              try clear c14
              try clear c18
              try clear c19
              try clear c19b0
              try clear c19b1
              try clear c20
              try clear c20b0
              try clear c20b1
              try clear c20b2
              try clear c22
              try clear c27
              try clear c32
              try clear c35
              try clear c38
              try clear hcz10_0
              try clear hcz10_1
              try clear hcz15_0
              try clear hcz15_1
              try clear hcz23_0
              try clear hcz23_1
              try clear hcz25_0
              try clear hcz25_1
              try clear hcz26_0
              try clear hcz26_1
              try clear hcz28_0
              try clear hcz28_1
              try clear hcz30_0
              try clear hcz30_1
              try clear hcz31_0
              try clear hcz31_1
              try clear hcz33_0
              try clear hcz33_1
              try clear hcz36_0
              try clear hcz36_1
              try clear hfz10_0
              try clear hfz10_1
              try clear hfz15_0
              try clear hfz15_1
              try clear hfz23_0
              try clear hfz23_1
              try clear hfz25_0
              try clear hfz25_1
              try clear hfz26_0
              try clear hfz26_1
              try clear hfz28_0
              try clear hfz28_1
              try clear hfz30_0
              try clear hfz30_1
              try clear hfz31_0
              try clear hfz31_1
              try clear hfz33_0
              try clear hfz33_1
              try clear hfz36_0
              try clear hfz36_1
              try clear p2
              try clear p6
              obtain ⟨x6_2, rfl, HA, HK2, HO_334000, HO_334001, BK323, BK333, HB⟩ := hrel
              cases gk with
              | zero => exact absurd HA.out (by simp [trammellaw6_ScopeShape.l0])
              | succ k2 =>
                have H := HA.out
                clear HA
                simp only [trammellaw6_ScopeShape.l0] at H
                by_cases c39 : x6_2 < (t328.length : Int)
                · rw [if_pos c39] at H
                  have c39b0 : decide (x6_2 < (t328.length : Int)) = true := decide_eq_true c39
                  clear c39
                  by_cases c40 : 0 ≤ x6_2
                  · rw [if_pos c40] at H
                    have c40b0 : decide (0 ≤ x6_2) = true := decide_eq_true c40
                    clear c40
                    by_cases c41 : x6_2 < (l0_1.length : Int)
                    · rw [if_pos c41] at H
                      have c41b0 : decide (x6_2 < (l0_1.length : Int)) = true := decide_eq_true c41
                      clear c41
                      by_cases c42 : ((rd_T34 t328 x6_2).f5).size + ((rd_T34 t328 x6_2).f6).size ≤ 9223372036854775807
                      · rw [if_pos c42] at H
                        have c42b0 := eq_true c42
                        have c42b1 : decide (((rd_T34 t328 x6_2).f5).size + ((rd_T34 t328 x6_2).f6).size ≤ 9223372036854775807) = true := decide_eq_true c42
                        try have c42b2 : (9223372036854775807 < ((rd_T34 t328 x6_2).f5).size + ((rd_T34 t328 x6_2).f6).size) = False := eq_false (Nat.not_lt.2 c42)
                        by_cases c43 : (((rd_T34 t328 x6_2).f5) ++ ((rd_T34 t328 x6_2).f6)).size + ((rd_T34 t328 x6_2).f7).size ≤ 9223372036854775807
                        · rw [if_pos c43] at H
                          have c43b0 := eq_true c43
                          have c43b1 : decide ((((rd_T34 t328 x6_2).f5) ++ ((rd_T34 t328 x6_2).f6)).size + ((rd_T34 t328 x6_2).f7).size ≤ 9223372036854775807) = true := decide_eq_true c43
                          try have c43b2 : (9223372036854775807 < (((rd_T34 t328 x6_2).f5) ++ ((rd_T34 t328 x6_2).f6)).size + ((rd_T34 t328 x6_2).f7).size) = False := eq_false (Nat.not_lt.2 c43)
                          by_cases c44 : ((((rd_T34 t328 x6_2).f5) ++ ((rd_T34 t328 x6_2).f6)) ++ ((rd_T34 t328 x6_2).f7)).size + ((rd_T34 t328 x6_2).f8).size ≤ 9223372036854775807
                          · rw [if_pos c44] at H
                            have c44b0 := eq_true c44
                            have c44b1 : decide (((((rd_T34 t328 x6_2).f5) ++ ((rd_T34 t328 x6_2).f6)) ++ ((rd_T34 t328 x6_2).f7)).size + ((rd_T34 t328 x6_2).f8).size ≤ 9223372036854775807) = true := decide_eq_true c44
                            try have c44b2 : (9223372036854775807 < ((((rd_T34 t328 x6_2).f5) ++ ((rd_T34 t328 x6_2).f6)) ++ ((rd_T34 t328 x6_2).f7)).size + ((rd_T34 t328 x6_2).f8).size) = False := eq_false (Nat.not_lt.2 c44)
                            by_cases c45 : (((((rd_T34 t328 x6_2).f5) ++ ((rd_T34 t328 x6_2).f6)) ++ ((rd_T34 t328 x6_2).f7)) ++ ((rd_T34 t328 x6_2).f8)).toList = ([] : List UInt8)
                            · rw [if_pos c45] at H
                              have c45b0 : ((((((rd_T34 t328 x6_2).f5) ++ ((rd_T34 t328 x6_2).f6)) ++ ((rd_T34 t328 x6_2).f7)) ++ ((rd_T34 t328 x6_2).f8)).toList == ([] : List UInt8)) = true := beq_iff_eq.mpr c45
                              have c45b1 : ((((((rd_T34 t328 x6_2).f5) ++ ((rd_T34 t328 x6_2).f6)) ++ ((rd_T34 t328 x6_2).f7)) ++ ((rd_T34 t328 x6_2).f8)).toList != ([] : List UInt8)) = false := bne_eq_false_iff_eq.mpr c45
                              have c45b9 : ((((((rd_T34 t328 x6_2).f5) ++ ((rd_T34 t328 x6_2).f6)) ++ ((rd_T34 t328 x6_2).f7)) ++ ((rd_T34 t328 x6_2).f8)).toList.isEmpty) = true := by simpa using c45
                              try rw [c45b9]
                              clear c45
                              by_cases c46 : ((rd_T34 l0_1 x6_2).f0) = ((rd_T34 t328 x6_2).f0)
                              · rw [if_pos c46] at H
                                have c46b0 : (((rd_T34 l0_1 x6_2).f0) == ((rd_T34 t328 x6_2).f0)) = true := beq_iff_eq.mpr c46
                                have c46b1 : (((rd_T34 l0_1 x6_2).f0) != ((rd_T34 t328 x6_2).f0)) = false := bne_eq_false_iff_eq.mpr c46
                                clear c46
                                by_cases c47 : ((rd_T34 l0_1 x6_2).f1) = ((rd_T34 t328 x6_2).f1)
                                · rw [if_pos c47] at H
                                  have c47b0 : (((rd_T34 l0_1 x6_2).f1) == ((rd_T34 t328 x6_2).f1)) = true := beq_iff_eq.mpr c47
                                  have c47b1 : (((rd_T34 l0_1 x6_2).f1) != ((rd_T34 t328 x6_2).f1)) = false := bne_eq_false_iff_eq.mpr c47
                                  clear c47
                                  by_cases c48 : ((rd_T34 l0_1 x6_2).f2) = ((rd_T34 t328 x6_2).f2)
                                  · rw [if_pos c48] at H
                                    have c48b0 : (((rd_T34 l0_1 x6_2).f2) == ((rd_T34 t328 x6_2).f2)) = true := beq_iff_eq.mpr c48
                                    have c48b1 : (((rd_T34 l0_1 x6_2).f2) != ((rd_T34 t328 x6_2).f2)) = false := bne_eq_false_iff_eq.mpr c48
                                    clear c48
                                    by_cases c49 : ((rd_T34 l0_1 x6_2).f3) = ((rd_T34 t328 x6_2).f3)
                                    · rw [if_pos c49] at H
                                      have c49b0 : (((rd_T34 l0_1 x6_2).f3) == ((rd_T34 t328 x6_2).f3)) = true := beq_iff_eq.mpr c49
                                      have c49b1 : (((rd_T34 l0_1 x6_2).f3) != ((rd_T34 t328 x6_2).f3)) = false := bne_eq_false_iff_eq.mpr c49
                                      clear c49
                                      by_cases c50 : ((rd_T34 l0_1 x6_2).f9) = ((rd_T34 t328 x6_2).f9)
                                      · rw [if_pos c50] at H
                                        have c50b0 : (((rd_T34 l0_1 x6_2).f9) == ((rd_T34 t328 x6_2).f9)) = true := beq_iff_eq.mpr c50
                                        have c50b1 : (((rd_T34 l0_1 x6_2).f9) != ((rd_T34 t328 x6_2).f9)) = false := bne_eq_false_iff_eq.mpr c50
                                        clear c50
                                        by_cases c51 : ((rd_T34 t328 x6_2).f4) < 0
                                        · rw [if_pos c51] at H
                                          have c51b0 : decide (((rd_T34 t328 x6_2).f4) < 0) = true := decide_eq_true c51
                                          clear c51
                                          exact absurd ((Option.some.inj H).trans HTRUE.out) (by decide)
                                        · rw [if_neg c51] at H
                                          have c51b0 : decide (((rd_T34 t328 x6_2).f4) < 0) = false := decide_eq_false c51
                                          clear c51
                                          have H' := Aside0.mk H
                                          clear H
                                          have hnb52 := NB333_323.out
                                          have hnc52 := NB323_333.out
                                          have hcz53_0 : wr.cell? ⟨gb333, 0, none⟩ = some (.slice Ao13 t325.length co13) := (blk_cell BK333.out 0).trans rfl
                                          have hcz53_1 : wr.cell? ⟨gb333, 1, none⟩ = some (.slice Ao16 t328.length co16) := (blk_cell BK333.out 1).trans rfl
                                          have hfz53_0 := blk_frozen BK333.out 0
                                          have hfz53_1 := blk_frozen BK333.out 1
                                          try go_wp2
                                          have n0_ := Aside0.mk (Kd.R_drew HO_334000.out)
                                          have n1_ := Aside0.mk (Kd.R_drew HO_334001.out)
                                          have n2_ := Aside0.mk (blk_drew BK323.out)
                                          have n3_ := Aside0.mk (blk_drew BK333.out)
                                          have n4_ := Aside0.mk (below_drew1 HB.out)
                                          clear HO_334000
                                          clear HO_334001
                                          clear BK323
                                          clear BK333
                                          clear HB
                                          have HO_334000 := n0_
                                          have HO_334001 := n1_
                                          have BK323 := n2_
                                          have BK333 := n3_
                                          have HB := n4_
                                          clear n0_ n1_ n2_ n3_ n4_
                                          have p337 : 0 ≤ (x6_2 : Int) := of_decide_eq_true (by first | (with_reducible assumption) | assumption)
                                          have q337 : x6_2 < (l0_1.length : Int) := of_decide_eq_true (by first | (with_reducible assumption) | assumption)
                                          obtain ⟨ad337, e337, hx337_0, hx337_1, hx337_2, hx337_3, hx337_4, hx337_5, hx337_6, hx337_7, hx337_8, hx337_9⟩ := at_T34 HR0_1.out x6_2 p337 q337
                                          have hw337_9 := hx337_9
                                          have hw337_8 := hx337_8
                                          have hw337_7 := hx337_7
                                          have hw337_6 := hx337_6
                                          have hw337_5 := hx337_5
                                          have hw337_4 := hx337_4
                                          have hw337_3 := hx337_3
                                          have hw337_2 := hx337_2
                                          have hw337_1 := hx337_1
                                          have hw337_0 := hx337_0
                                          cases e337
                                          replace hx337_0 := (HB.out.cell (World.block_lt_of_cell? w _ hx337_0)).trans hx337_0
                                          replace hx337_1 := (HB.out.cell (World.block_lt_of_cell? w _ hx337_1)).trans hx337_1
                                          replace hx337_2 := (HB.out.cell (World.block_lt_of_cell? w _ hx337_2)).trans hx337_2
                                          replace hx337_3 := (HB.out.cell (World.block_lt_of_cell? w _ hx337_3)).trans hx337_3
                                          replace hx337_4 := (HB.out.cell (World.block_lt_of_cell? w _ hx337_4)).trans hx337_4
                                          replace hx337_5 := (HB.out.cell (World.block_lt_of_cell? w _ hx337_5)).trans hx337_5
                                          replace hx337_6 := (HB.out.cell (World.block_lt_of_cell? w _ hx337_6)).trans hx337_6
                                          replace hx337_7 := (HB.out.cell (World.block_lt_of_cell? w _ hx337_7)).trans hx337_7
                                          replace hx337_8 := (HB.out.cell (World.block_lt_of_cell? w _ hx337_8)).trans hx337_8
                                          replace hx337_9 := (HB.out.cell (World.block_lt_of_cell? w _ hx337_9)).trans hx337_9
                                          replace p337 := eq_true p337
                                          replace q337 := eq_true q337
                                          have p338 : 0 ≤ (x6_2 : Int) := of_decide_eq_true (by first | (with_reducible assumption) | assumption)
                                          have q338 : x6_2 < (t328.length : Int) := of_decide_eq_true (by first | (with_reducible assumption) | assumption)
                                          obtain ⟨ad338, e338, hx338_0, hx338_1, hx338_2, hx338_3, hx338_4, hx338_5, hx338_6, hx338_7, hx338_8, hx338_9⟩ := at_T34 (Kd.R_reads' HO_334001.out).2.2 x6_2 p338 q338
                                          cases e338
                                          replace p338 := eq_true p338
                                          replace q338 := eq_true q338
                                          refine start_ (n := 14) (S := fun w' => w'.cell? ⟨gb323, 0, none⟩ = some (.slice A0_0 l0_0.length c0_0) ∧ w'.cell? ⟨gb323, 1, none⟩ = some (.slice (some ad337) l0_1.length c0_1) ∧ w'.cell? ⟨gb333, 0, none⟩ = some (.slice Ao13 t325.length co13) ∧ w'.cell? ⟨gb333, 1, none⟩ = some (.slice (some ad338) t328.length co16) ∧ w'.cell? (ad337.add ((x6_2).toNat * 10)) = some (.int .i64 ((rd_T34 l0_1 x6_2).f0)) ∧ w'.cell? ⟨(ad337.add ((x6_2).toNat * 10)).block, (ad337.add ((x6_2).toNat * 10)).off + 1, none⟩ = some (.int .i64 ((rd_T34 l0_1 x6_2).f1)) ∧ w'.cell? ⟨(ad337.add ((x6_2).toNat * 10)).block, (ad337.add ((x6_2).toNat * 10)).off + 2, none⟩ = some (.int .i64 ((rd_T34 l0_1 x6_2).f2)) ∧ w'.cell? ⟨(ad337.add ((x6_2).toNat * 10)).block, (ad337.add ((x6_2).toNat * 10)).off + 3, none⟩ = some (.int .i64 ((rd_T34 l0_1 x6_2).f3)) ∧ w'.cell? ⟨(ad337.add ((x6_2).toNat * 10)).block, (ad337.add ((x6_2).toNat * 10)).off + 4, none⟩ = some (.int .i64 ((rd_T34 l0_1 x6_2).f4)) ∧ w'.cell? ⟨(ad337.add ((x6_2).toNat * 10)).block, (ad337.add ((x6_2).toNat * 10)).off + 5, none⟩ = some (.string ((rd_T34 l0_1 x6_2).f5)) ∧ w'.cell? ⟨(ad337.add ((x6_2).toNat * 10)).block, (ad337.add ((x6_2).toNat * 10)).off + 6, none⟩ = some (.string ((rd_T34 l0_1 x6_2).f6)) ∧ w'.cell? ⟨(ad337.add ((x6_2).toNat * 10)).block, (ad337.add ((x6_2).toNat * 10)).off + 7, none⟩ = some (.string ((rd_T34 l0_1 x6_2).f7)) ∧ w'.cell? ⟨(ad337.add ((x6_2).toNat * 10)).block, (ad337.add ((x6_2).toNat * 10)).off + 8, none⟩ = some (.string ((rd_T34 l0_1 x6_2).f8)) ∧ w'.cell? ⟨(ad337.add ((x6_2).toNat * 10)).block, (ad337.add ((x6_2).toNat * 10)).off + 9, none⟩ = some (.int .i64 ((rd_T34 l0_1 x6_2).f9)) ∧ w'.cell? (ad338.add ((x6_2).toNat * 10)) = some (.int .i64 ((rd_T34 t328 x6_2).f0)) ∧ w'.cell? ⟨(ad338.add ((x6_2).toNat * 10)).block, (ad338.add ((x6_2).toNat * 10)).off + 1, none⟩ = some (.int .i64 ((rd_T34 t328 x6_2).f1)) ∧ w'.cell? ⟨(ad338.add ((x6_2).toNat * 10)).block, (ad338.add ((x6_2).toNat * 10)).off + 2, none⟩ = some (.int .i64 ((rd_T34 t328 x6_2).f2)) ∧ w'.cell? ⟨(ad338.add ((x6_2).toNat * 10)).block, (ad338.add ((x6_2).toNat * 10)).off + 3, none⟩ = some (.int .i64 ((rd_T34 t328 x6_2).f3)) ∧ w'.cell? ⟨(ad338.add ((x6_2).toNat * 10)).block, (ad338.add ((x6_2).toNat * 10)).off + 4, none⟩ = some (.int .i64 ((rd_T34 t328 x6_2).f4)) ∧ w'.cell? ⟨(ad338.add ((x6_2).toNat * 10)).block, (ad338.add ((x6_2).toNat * 10)).off + 5, none⟩ = some (.string ((rd_T34 t328 x6_2).f5)) ∧ w'.cell? ⟨(ad338.add ((x6_2).toNat * 10)).block, (ad338.add ((x6_2).toNat * 10)).off + 6, none⟩ = some (.string ((rd_T34 t328 x6_2).f6)) ∧ w'.cell? ⟨(ad338.add ((x6_2).toNat * 10)).block, (ad338.add ((x6_2).toNat * 10)).off + 7, none⟩ = some (.string ((rd_T34 t328 x6_2).f7)) ∧ w'.cell? ⟨(ad338.add ((x6_2).toNat * 10)).block, (ad338.add ((x6_2).toNat * 10)).off + 8, none⟩ = some (.string ((rd_T34 t328 x6_2).f8)) ∧ w'.cell? ⟨(ad338.add ((x6_2).toNat * 10)).block, (ad338.add ((x6_2).toNat * 10)).off + 9, none⟩ = some (.int .i64 ((rd_T34 t328 x6_2).f9))) (ds := []) #[false, false, false, false, false, false, false, false, false, false, false, false, false, false] (by kernel_rfl) rfl rfl ⟨(blk_cell BK323.out 0).trans rfl, (blk_cell BK323.out 1).trans rfl, (blk_cell BK333.out 0).trans rfl, (blk_cell BK333.out 1).trans rfl, ((HB.out.cell (World.block_lt_of_cell? w _ hw337_0)).trans hw337_0), ((HB.out.cell (World.block_lt_of_cell? w _ hw337_1)).trans hw337_1), ((HB.out.cell (World.block_lt_of_cell? w _ hw337_2)).trans hw337_2), ((HB.out.cell (World.block_lt_of_cell? w _ hw337_3)).trans hw337_3), ((HB.out.cell (World.block_lt_of_cell? w _ hw337_4)).trans hw337_4), ((HB.out.cell (World.block_lt_of_cell? w _ hw337_5)).trans hw337_5), ((HB.out.cell (World.block_lt_of_cell? w _ hw337_6)).trans hw337_6), ((HB.out.cell (World.block_lt_of_cell? w _ hw337_7)).trans hw337_7), ((HB.out.cell (World.block_lt_of_cell? w _ hw337_8)).trans hw337_8), ((HB.out.cell (World.block_lt_of_cell? w _ hw337_9)).trans hw337_9), hx338_0, hx338_1, hx338_2, hx338_3, hx338_4, hx338_5, hx338_6, hx338_7, hx338_8, hx338_9⟩ (fun hHeld => ?_); refine with_tabW trammellaw6_ScopeShape.tab11 trammellaw6_ScopeShape.bits11 (fun HT_ HW_ => ?_)
                                          generalize wr.drew = w54 at HO_334000 HO_334001 BK323 BK333 HB hx337_0 hx337_1 hx337_2 hx337_3 hx337_4 hx337_5 hx337_6 hx337_7 hx337_8 hx337_9 hx338_0 hx338_1 hx338_2 hx338_3 hx338_4 hx338_5 hx338_6 hx338_7 hx338_8 hx338_9 hHeld ⊢
                                          refine pure_ (i := 0) (N := some 63) (v := ?_) (a' := ?_) #[true, false, false, false, false, false, false, false, false, false, false, false, false, false] rfl rfl (any_of HT_.out (by kernel_rfl)) (fun _ _ _ h => h) (Or.inl ⟨by rfl, ?_⟩) ?_ ?_
                                          rotate_left
                                          · intro w'
                                            go_simp
                                            with_reducible rfl
                                          rotate_left
                                          · simp only [Act.put, List.setIfInBounds_toArray, List.set_cons_zero, List.set_cons_succ, i64_w, i32_w]
                                            rfl
                                          refine pure_ (i := 2) (N := some 65) (v := ?_) (a' := ?_) #[true, false, true, false, false, false, false, false, false, false, false, false, false, false] rfl rfl (any_of HT_.out (by kernel_rfl)) (fun _ _ _ h => h) (Or.inl ⟨by rfl, ?_⟩) ?_ ?_
                                          rotate_left
                                          · intro w'
                                            go_simp
                                            with_reducible rfl
                                          rotate_left
                                          · simp only [Act.put, List.setIfInBounds_toArray, List.set_cons_zero, List.set_cons_succ, i64_w, i32_w]
                                            rfl
                                          refine pure_ (i := 5) (N := some 68) (v := ?_) (a' := ?_) #[true, false, true, false, false, true, false, false, false, false, false, false, false, false] rfl rfl (any_of HT_.out (by kernel_rfl)) (fun _ _ _ h => h) (Or.inl ⟨by rfl, ?_⟩) ?_ ?_
                                          rotate_left
                                          · intro w'
                                            go_simp
                                            with_reducible rfl
                                          rotate_left
                                          · simp only [Act.put, List.setIfInBounds_toArray, List.set_cons_zero, List.set_cons_succ, i64_w, i32_w]
                                            rfl
                                          refine pure_ (i := 7) (N := some 70) (v := ?_) (a' := ?_) #[true, false, true, false, false, true, false, true, false, false, false, false, false, false] rfl rfl (any_of HT_.out (by kernel_rfl)) (fun _ _ _ h => h) (Or.inl ⟨by rfl, ?_⟩) ?_ ?_
                                          rotate_left
                                          · intro w'
                                            go_simp
                                            with_reducible rfl
                                          rotate_left
                                          · simp only [Act.put, List.setIfInBounds_toArray, List.set_cons_zero, List.set_cons_succ, i64_w, i32_w]
                                            rfl
                                          refine take_ (i := 1) (N := some 64) (v := ?_) (a' := ?_) #[true, true, true, false, false, true, false, true, false, false, false, false, false, false] rfl rfl (take_ofW HT_.out HW_.out (by kernel_rfl)) (fun _ _ _ h => h) (Or.inl ⟨by rfl, ?_⟩) hHeld ?_ ?_
                                          rotate_left
                                          · rintro w' ⟨s0, s1, s2, s3, s4, s5, s6, s7, s8, s9, s10, s11, s12, s13, s14, s15, s16, s17, s18, s19, s20, s21, s22, s23⟩
                                            go_simp
                                            with_reducible rfl
                                          rotate_left
                                          · simp only [Act.put, List.setIfInBounds_toArray, List.set_cons_zero, List.set_cons_succ, i64_w, i32_w]
                                            rfl
                                          refine pure_ (i := 3) (N := some 66) (v := ?_) (a' := ?_) #[true, true, true, true, false, true, false, true, false, false, false, false, false, false] rfl rfl (any_of HT_.out (by kernel_rfl)) (fun _ _ _ h => h) (Or.inl ⟨by rfl, ?_⟩) ?_ ?_
                                          rotate_left
                                          · intro w'
                                            go_simp
                                            with_reducible rfl
                                          rotate_left
                                          · simp only [Act.put, List.setIfInBounds_toArray, List.set_cons_zero, List.set_cons_succ, i64_w, i32_w]
                                            rfl
                                          refine take_ (i := 4) (N := some 67) (v := ?_) (a' := ?_) #[true, true, true, true, true, true, false, true, false, false, false, false, false, false] rfl rfl (take_ofW HT_.out HW_.out (by kernel_rfl)) (fun _ _ _ h => h) (Or.inl ⟨by rfl, ?_⟩) hHeld ?_ ?_
                                          rotate_left
                                          · rintro w' ⟨s0, s1, s2, s3, s4, s5, s6, s7, s8, s9, s10, s11, s12, s13, s14, s15, s16, s17, s18, s19, s20, s21, s22, s23⟩
                                            go_simp
                                            with_reducible rfl
                                          rotate_left
                                          · simp only [Act.put, List.setIfInBounds_toArray, List.set_cons_zero, List.set_cons_succ, i64_w, i32_w]
                                            rfl
                                          refine take_ (i := 6) (N := some 69) (v := ?_) (a' := ?_) #[true, true, true, true, true, true, true, true, false, false, false, false, false, false] rfl rfl (take_ofW HT_.out HW_.out (by kernel_rfl)) (fun _ _ _ h => h) (Or.inl ⟨by rfl, ?_⟩) hHeld ?_ ?_
                                          rotate_left
                                          · rintro w' ⟨s0, s1, s2, s3, s4, s5, s6, s7, s8, s9, s10, s11, s12, s13, s14, s15, s16, s17, s18, s19, s20, s21, s22, s23⟩
                                            go_simp
                                            with_reducible rfl
                                          rotate_left
                                          · simp only [Act.put, List.setIfInBounds_toArray, List.set_cons_zero, List.set_cons_succ, i64_w, i32_w]
                                            rfl
                                          refine pure_ (i := 8) (N := some 71) (v := ?_) (a' := ?_) #[true, true, true, true, true, true, true, true, true, false, false, false, false, false] rfl rfl (any_of HT_.out (by kernel_rfl)) (fun _ _ _ h => h) (Or.inl ⟨by rfl, ?_⟩) ?_ ?_
                                          rotate_left
                                          · intro w'
                                            go_simp
                                            with_reducible rfl
                                          rotate_left
                                          · simp only [Act.put, List.setIfInBounds_toArray, List.set_cons_zero, List.set_cons_succ, i64_w, i32_w]
                                            rfl
                                          refine take_ (i := 9) (N := some 72) (v := ?_) (a' := ?_) #[true, true, true, true, true, true, true, true, true, true, false, false, false, false] rfl rfl (take_ofW HT_.out HW_.out (by kernel_rfl)) (fun _ _ _ h => h) (Or.inl ⟨by rfl, ?_⟩) hHeld ?_ ?_
                                          rotate_left
                                          · rintro w' ⟨s0, s1, s2, s3, s4, s5, s6, s7, s8, s9, s10, s11, s12, s13, s14, s15, s16, s17, s18, s19, s20, s21, s22, s23⟩
                                            go_simp
                                            with_reducible rfl
                                          rotate_left
                                          · simp only [Act.put, List.setIfInBounds_toArray, List.set_cons_zero, List.set_cons_succ, i64_w, i32_w]
                                            rfl
                                          refine join_ (σ := Nat × Nat) 2 #[true, true, true, true, true, true, true, true, true, true, true, true, false, false] (fun s_ => [(7, .pointer (some ⟨s_.1, 0, none⟩)), (8, .pointer (some ⟨s_.2, 0, none⟩))]) (fun s_ w' => (w'.cell? ⟨gb323, 0, none⟩ = some (.slice A0_0 l0_0.length c0_0) ∧ w'.cell? ⟨gb323, 1, none⟩ = some (.slice (some ad337) l0_1.length c0_1) ∧ w'.cell? ⟨gb333, 0, none⟩ = some (.slice Ao13 t325.length co13) ∧ w'.cell? ⟨gb333, 1, none⟩ = some (.slice (some ad338) t328.length co16) ∧ w'.cell? (ad337.add ((x6_2).toNat * 10)) = some (.int .i64 ((rd_T34 l0_1 x6_2).f0)) ∧ w'.cell? ⟨(ad337.add ((x6_2).toNat * 10)).block, (ad337.add ((x6_2).toNat * 10)).off + 1, none⟩ = some (.int .i64 ((rd_T34 l0_1 x6_2).f1)) ∧ w'.cell? ⟨(ad337.add ((x6_2).toNat * 10)).block, (ad337.add ((x6_2).toNat * 10)).off + 2, none⟩ = some (.int .i64 ((rd_T34 l0_1 x6_2).f2)) ∧ w'.cell? ⟨(ad337.add ((x6_2).toNat * 10)).block, (ad337.add ((x6_2).toNat * 10)).off + 3, none⟩ = some (.int .i64 ((rd_T34 l0_1 x6_2).f3)) ∧ w'.cell? ⟨(ad337.add ((x6_2).toNat * 10)).block, (ad337.add ((x6_2).toNat * 10)).off + 4, none⟩ = some (.int .i64 ((rd_T34 l0_1 x6_2).f4)) ∧ w'.cell? ⟨(ad337.add ((x6_2).toNat * 10)).block, (ad337.add ((x6_2).toNat * 10)).off + 5, none⟩ = some (.string ((rd_T34 l0_1 x6_2).f5)) ∧ w'.cell? ⟨(ad337.add ((x6_2).toNat * 10)).block, (ad337.add ((x6_2).toNat * 10)).off + 6, none⟩ = some (.string ((rd_T34 l0_1 x6_2).f6)) ∧ w'.cell? ⟨(ad337.add ((x6_2).toNat * 10)).block, (ad337.add ((x6_2).toNat * 10)).off + 7, none⟩ = some (.string ((rd_T34 l0_1 x6_2).f7)) ∧ w'.cell? ⟨(ad337.add ((x6_2).toNat * 10)).block, (ad337.add ((x6_2).toNat * 10)).off + 8, none⟩ = some (.string ((rd_T34 l0_1 x6_2).f8)) ∧ w'.cell? ⟨(ad337.add ((x6_2).toNat * 10)).block, (ad337.add ((x6_2).toNat * 10)).off + 9, none⟩ = some (.int .i64 ((rd_T34 l0_1 x6_2).f9)) ∧ w'.cell? (ad338.add ((x6_2).toNat * 10)) = some (.int .i64 ((rd_T34 t328 x6_2).f0)) ∧ w'.cell? ⟨(ad338.add ((x6_2).toNat * 10)).block, (ad338.add ((x6_2).toNat * 10)).off + 1, none⟩ = some (.int .i64 ((rd_T34 t328 x6_2).f1)) ∧ w'.cell? ⟨(ad338.add ((x6_2).toNat * 10)).block, (ad338.add ((x6_2).toNat * 10)).off + 2, none⟩ = some (.int .i64 ((rd_T34 t328 x6_2).f2)) ∧ w'.cell? ⟨(ad338.add ((x6_2).toNat * 10)).block, (ad338.add ((x6_2).toNat * 10)).off + 3, none⟩ = some (.int .i64 ((rd_T34 t328 x6_2).f3)) ∧ w'.cell? ⟨(ad338.add ((x6_2).toNat * 10)).block, (ad338.add ((x6_2).toNat * 10)).off + 4, none⟩ = some (.int .i64 ((rd_T34 t328 x6_2).f4)) ∧ w'.cell? ⟨(ad338.add ((x6_2).toNat * 10)).block, (ad338.add ((x6_2).toNat * 10)).off + 5, none⟩ = some (.string ((rd_T34 t328 x6_2).f5)) ∧ w'.cell? ⟨(ad338.add ((x6_2).toNat * 10)).block, (ad338.add ((x6_2).toNat * 10)).off + 6, none⟩ = some (.string ((rd_T34 t328 x6_2).f6)) ∧ w'.cell? ⟨(ad338.add ((x6_2).toNat * 10)).block, (ad338.add ((x6_2).toNat * 10)).off + 7, none⟩ = some (.string ((rd_T34 t328 x6_2).f7)) ∧ w'.cell? ⟨(ad338.add ((x6_2).toNat * 10)).block, (ad338.add ((x6_2).toNat * 10)).off + 8, none⟩ = some (.string ((rd_T34 t328 x6_2).f8)) ∧ w'.cell? ⟨(ad338.add ((x6_2).toNat * 10)).block, (ad338.add ((x6_2).toNat * 10)).off + 9, none⟩ = some (.int .i64 ((rd_T34 t328 x6_2).f9))) ∧ (Kd.R k45 45 w' w.heap.size (fun _ => True) (.slice Ao13 t325.length co13) t325) ∧ (Kd.R k34 34 w' w.heap.size (fun k_ => k_ ≠ s_.1 ∧ k_ ≠ s_.2) (.slice (some ad338) t328.length co16) t328) ∧ (w'.heap[gb323]? = some (.cells #[.slice A0_0 l0_0.length c0_0, .slice (some ad337) l0_1.length c0_1] 25 (0, 0))) ∧ (w'.heap[gb333]? = some (.cells #[.slice Ao13 t325.length co13, .slice (some ad338) t328.length co16] 25 (0, 0))) ∧ (w'.heap[s_.1]? = some (.cells #[.int .i64 0, .int .i64 0, .int .i64 0, .int .i64 0, .int .i64 0, .string (⟨#[]⟩ : ByteArray), .string (⟨#[]⟩ : ByteArray), .string (⟨#[]⟩ : ByteArray), .string (⟨#[]⟩ : ByteArray), .int .i64 0] 34 (0, 0))) ∧ (w'.heap[s_.2]? = some (.cells #[.int .i64 0, .int .i64 0, .int .i64 0, .int .i64 0, .int .i64 0, .string (⟨#[]⟩ : ByteArray), .string (⟨#[]⟩ : ByteArray), .string (⟨#[]⟩ : ByteArray), .string (⟨#[]⟩ : ByteArray), .int .i64 0] 34 (0, 0))) ∧ (w.heap.size ≤ s_.1) ∧ (w.heap.size ≤ s_.1) ∧ (gb323 ≠ s_.1) ∧ (s_.1 ≠ gb323) ∧ (gb333 ≠ s_.1) ∧ (s_.1 ≠ gb333) ∧ (s_.2 ≠ s_.1) ∧ (s_.1 ≠ s_.2) ∧ (w.heap.size ≤ s_.2) ∧ (w.heap.size ≤ s_.2) ∧ (gb323 ≠ s_.2) ∧ (s_.2 ≠ gb323) ∧ (gb333 ≠ s_.2) ∧ (s_.2 ≠ gb333) ∧ (Below w.heap.size w w')) ?_ ?_
                                          rotate_left
                                          · intro hCont
                                            refine two_ (i := 10) (j := 11) (Ni := some 7) (Nj := some 8) #[true, true, true, true, true, true, true, true, true, true, true, false, false, false] #[true, true, true, true, true, true, true, true, true, true, false, true, false, false] rfl rfl rfl rfl (two_of HT_.out (by kernel_rfl)) (by decide) (by decide) (fun K hK => ?_) (fun K hK => ?_)
                                            · skip
                                              refine box_step ?hg (N := 7) ?hd (cs := #[.int .i64 0, .int .i64 0, .int .i64 0, .int .i64 0, .int .i64 0, .string (⟨#[]⟩ : ByteArray), .string (⟨#[]⟩ : ByteArray), .string (⟨#[]⟩ : ByteArray), .string (⟨#[]⟩ : ByteArray), .int .i64 0]) (t := 34) ?hr ?_; (case hd => rfl); (case hg => rfl); (case hr => first | (go_simp; done) | (go_simp; rfl))
                                              intro gb339 hg w55 hbox hb
                                              have HS14_ := (hb.cell (World.block_lt_of_cell? _ _ (hHeld.2.2.2.2.2.2.2.2.2.2.2.2.2.2.1))).trans (hHeld.2.2.2.2.2.2.2.2.2.2.2.2.2.2.1)
                                              have HS15_ := (hb.cell (World.block_lt_of_cell? _ _ (hHeld.2.2.2.2.2.2.2.2.2.2.2.2.2.2.2.1))).trans (hHeld.2.2.2.2.2.2.2.2.2.2.2.2.2.2.2.1)
                                              have HS16_ := (hb.cell (World.block_lt_of_cell? _ _ (hHeld.2.2.2.2.2.2.2.2.2.2.2.2.2.2.2.2.1))).trans (hHeld.2.2.2.2.2.2.2.2.2.2.2.2.2.2.2.2.1)
                                              have HS17_ := (hb.cell (World.block_lt_of_cell? _ _ (hHeld.2.2.2.2.2.2.2.2.2.2.2.2.2.2.2.2.2.1))).trans (hHeld.2.2.2.2.2.2.2.2.2.2.2.2.2.2.2.2.2.1)
                                              have HS18_ := (hb.cell (World.block_lt_of_cell? _ _ (hHeld.2.2.2.2.2.2.2.2.2.2.2.2.2.2.2.2.2.2.1))).trans (hHeld.2.2.2.2.2.2.2.2.2.2.2.2.2.2.2.2.2.2.1)
                                              have HS19_ := (hb.cell (World.block_lt_of_cell? _ _ (hHeld.2.2.2.2.2.2.2.2.2.2.2.2.2.2.2.2.2.2.2.1))).trans (hHeld.2.2.2.2.2.2.2.2.2.2.2.2.2.2.2.2.2.2.2.1)
                                              have HS20_ := (hb.cell (World.block_lt_of_cell? _ _ (hHeld.2.2.2.2.2.2.2.2.2.2.2.2.2.2.2.2.2.2.2.2.1))).trans (hHeld.2.2.2.2.2.2.2.2.2.2.2.2.2.2.2.2.2.2.2.2.1)
                                              have HS21_ := (hb.cell (World.block_lt_of_cell? _ _ (hHeld.2.2.2.2.2.2.2.2.2.2.2.2.2.2.2.2.2.2.2.2.2.1))).trans (hHeld.2.2.2.2.2.2.2.2.2.2.2.2.2.2.2.2.2.2.2.2.2.1)
                                              have HS22_ := (hb.cell (World.block_lt_of_cell? _ _ (hHeld.2.2.2.2.2.2.2.2.2.2.2.2.2.2.2.2.2.2.2.2.2.2.1))).trans (hHeld.2.2.2.2.2.2.2.2.2.2.2.2.2.2.2.2.2.2.2.2.2.2.1)
                                              have HS23_ := (hb.cell (World.block_lt_of_cell? _ _ (hHeld.2.2.2.2.2.2.2.2.2.2.2.2.2.2.2.2.2.2.2.2.2.2.2))).trans (hHeld.2.2.2.2.2.2.2.2.2.2.2.2.2.2.2.2.2.2.2.2.2.2.2)
                                              have n0_ := Aside0.mk (Kd.R_below (by (with_reducible repeat (first | apply Kd.R_alloc | apply Kd.R_drewN | apply Kd.R_drew)); exact HO_334000.out) hb)
                                              have n1_ := Aside0.mk (Kd.R_below (Kd.R_elderB (by (with_reducible repeat (first | apply Kd.R_alloc | apply Kd.R_drewN | apply Kd.R_drew)); exact HO_334001.out) gb339 (Nat.le_of_eq hg.symm)) hb)
                                              have n2_ := Aside0.mk (blk_below (g := gb323) (o := .cells #[.slice A0_0 l0_0.length c0_0, .slice (some ad337) l0_1.length c0_1] 25 (0, 0)) (by (with_reducible repeat (first | refine blk_drewN ?_ _ | refine blk_drew ?_ | refine blk_alloc ?_ _)); exact BK323.out) hb)
                                              have n3_ := Aside0.mk (blk_below (g := gb333) (o := .cells #[.slice Ao13 t325.length co13, .slice (some ad338) t328.length co16] 25 (0, 0)) (by (with_reducible repeat (first | refine blk_drewN ?_ _ | refine blk_drew ?_ | refine blk_alloc ?_ _)); exact BK333.out) hb)
                                              have n4_ := Aside0.mk (below_step (by repeat (first | (with_reducible first | exact HB.out | apply below_alloc | apply pw_below_drewN | apply below_drew1 | refine below_set ?_ GE323.out | refine below_set ?_ GE333.out) | exact HB.out)) hb)
                                              have n5_ := Aside0.mk (hbox)
                                              have n6_ := Aside0.mk ((by rw [hg]; exact (below_size (by repeat (first | (with_reducible first | exact HB.out | apply below_alloc | apply pw_below_drewN | apply below_drew1 | refine below_set ?_ GE323.out | refine below_set ?_ GE333.out) | exact HB.out))) : w.heap.size ≤ gb339))
                                              have n7_ := Aside0.mk ((by rw [hg]; exact (below_size (by repeat (first | (with_reducible first | exact HB.out | apply below_alloc | apply pw_below_drewN | apply below_drew1 | refine below_set ?_ GE323.out | refine below_set ?_ GE333.out) | exact HB.out))) : w.heap.size ≤ gb339))
                                              have n8_ := Aside0.mk ((by rw [hg]; exact Nat.ne_of_lt (blk_lt (g := gb323) (o := .cells #[.slice A0_0 l0_0.length c0_0, .slice (some ad337) l0_1.length c0_1] 25 (0, 0)) (by (with_reducible repeat (first | refine blk_drewN ?_ _ | refine blk_drew ?_ | refine blk_alloc ?_ _)); exact BK323.out)) : gb323 ≠ gb339))
                                              have n9_ := Aside0.mk ((by rw [hg]; exact Nat.ne_of_gt (blk_lt (g := gb323) (o := .cells #[.slice A0_0 l0_0.length c0_0, .slice (some ad337) l0_1.length c0_1] 25 (0, 0)) (by (with_reducible repeat (first | refine blk_drewN ?_ _ | refine blk_drew ?_ | refine blk_alloc ?_ _)); exact BK323.out)) : gb339 ≠ gb323))
                                              have n10_ := Aside0.mk ((by rw [hg]; exact Nat.ne_of_lt (blk_lt (g := gb333) (o := .cells #[.slice Ao13 t325.length co13, .slice (some ad338) t328.length co16] 25 (0, 0)) (by (with_reducible repeat (first | refine blk_drewN ?_ _ | refine blk_drew ?_ | refine blk_alloc ?_ _)); exact BK333.out)) : gb333 ≠ gb339))
                                              have n11_ := Aside0.mk ((by rw [hg]; exact Nat.ne_of_gt (blk_lt (g := gb333) (o := .cells #[.slice Ao13 t325.length co13, .slice (some ad338) t328.length co16] 25 (0, 0)) (by (with_reducible repeat (first | refine blk_drewN ?_ _ | refine blk_drew ?_ | refine blk_alloc ?_ _)); exact BK333.out)) : gb339 ≠ gb333))
                                              clear HO_334000
                                              clear HO_334001
                                              clear BK323
                                              clear BK333
                                              clear HB
                                              have HO_334000 := n0_
                                              have HO_334001 := n1_
                                              have BK323 := n2_
                                              have BK333 := n3_
                                              have HB := n4_
                                              have BK339 := n5_
                                              have GW339 := n6_
                                              have GE339 := n7_
                                              have NB323_339 := n8_
                                              have NB339_323 := n9_
                                              have NB333_339 := n10_
                                              have NB339_333 := n11_
                                              clear n0_ n1_ n2_ n3_ n4_ n5_ n6_ n7_ n8_ n9_ n10_ n11_
                                              clear hb hbox hg
                                              refine hK.out _ _ ⟨(blk_cell BK323.out 0).trans rfl, (blk_cell BK323.out 1).trans rfl, (blk_cell BK333.out 0).trans rfl, (blk_cell BK333.out 1).trans rfl, ((HB.out.cell (World.block_lt_of_cell? w _ hw337_0)).trans hw337_0), ((HB.out.cell (World.block_lt_of_cell? w _ hw337_1)).trans hw337_1), ((HB.out.cell (World.block_lt_of_cell? w _ hw337_2)).trans hw337_2), ((HB.out.cell (World.block_lt_of_cell? w _ hw337_3)).trans hw337_3), ((HB.out.cell (World.block_lt_of_cell? w _ hw337_4)).trans hw337_4), ((HB.out.cell (World.block_lt_of_cell? w _ hw337_5)).trans hw337_5), ((HB.out.cell (World.block_lt_of_cell? w _ hw337_6)).trans hw337_6), ((HB.out.cell (World.block_lt_of_cell? w _ hw337_7)).trans hw337_7), ((HB.out.cell (World.block_lt_of_cell? w _ hw337_8)).trans hw337_8), ((HB.out.cell (World.block_lt_of_cell? w _ hw337_9)).trans hw337_9), HS14_, HS15_, HS16_, HS17_, HS18_, HS19_, HS20_, HS21_, HS22_, HS23_⟩ (fun hHeld => ?_)
                                              clear hK K
                                              refine norm_ (a' := ?_) ?_ ?_
                                              rotate_left
                                              · show Act.put _ (some 7) _ = _
                                                simp only [Act.put, List.setIfInBounds_toArray, List.set_cons_zero, List.set_cons_succ, i64_w, i32_w]
                                                rfl
                                              refine one_ (i := 11) (N := some 8) #[true, true, true, true, true, true, true, true, true, true, true, true, false, false] rfl rfl (one_of HT_.out (by kernel_rfl)) (by decide) (fun K hK => ?_)
                                              refine box_step ?hg (N := 8) ?hd (cs := #[.int .i64 0, .int .i64 0, .int .i64 0, .int .i64 0, .int .i64 0, .string (⟨#[]⟩ : ByteArray), .string (⟨#[]⟩ : ByteArray), .string (⟨#[]⟩ : ByteArray), .string (⟨#[]⟩ : ByteArray), .int .i64 0]) (t := 34) ?hr ?_; (case hd => rfl); (case hg => rfl); (case hr => first | (go_simp; done) | (go_simp; rfl))
                                              intro gb340 hg w56 hbox hb
                                              have HS14_ := (hb.cell (World.block_lt_of_cell? _ _ (hHeld.2.2.2.2.2.2.2.2.2.2.2.2.2.2.1))).trans (hHeld.2.2.2.2.2.2.2.2.2.2.2.2.2.2.1)
                                              have HS15_ := (hb.cell (World.block_lt_of_cell? _ _ (hHeld.2.2.2.2.2.2.2.2.2.2.2.2.2.2.2.1))).trans (hHeld.2.2.2.2.2.2.2.2.2.2.2.2.2.2.2.1)
                                              have HS16_ := (hb.cell (World.block_lt_of_cell? _ _ (hHeld.2.2.2.2.2.2.2.2.2.2.2.2.2.2.2.2.1))).trans (hHeld.2.2.2.2.2.2.2.2.2.2.2.2.2.2.2.2.1)
                                              have HS17_ := (hb.cell (World.block_lt_of_cell? _ _ (hHeld.2.2.2.2.2.2.2.2.2.2.2.2.2.2.2.2.2.1))).trans (hHeld.2.2.2.2.2.2.2.2.2.2.2.2.2.2.2.2.2.1)
                                              have HS18_ := (hb.cell (World.block_lt_of_cell? _ _ (hHeld.2.2.2.2.2.2.2.2.2.2.2.2.2.2.2.2.2.2.1))).trans (hHeld.2.2.2.2.2.2.2.2.2.2.2.2.2.2.2.2.2.2.1)
                                              have HS19_ := (hb.cell (World.block_lt_of_cell? _ _ (hHeld.2.2.2.2.2.2.2.2.2.2.2.2.2.2.2.2.2.2.2.1))).trans (hHeld.2.2.2.2.2.2.2.2.2.2.2.2.2.2.2.2.2.2.2.1)
                                              have HS20_ := (hb.cell (World.block_lt_of_cell? _ _ (hHeld.2.2.2.2.2.2.2.2.2.2.2.2.2.2.2.2.2.2.2.2.1))).trans (hHeld.2.2.2.2.2.2.2.2.2.2.2.2.2.2.2.2.2.2.2.2.1)
                                              have HS21_ := (hb.cell (World.block_lt_of_cell? _ _ (hHeld.2.2.2.2.2.2.2.2.2.2.2.2.2.2.2.2.2.2.2.2.2.1))).trans (hHeld.2.2.2.2.2.2.2.2.2.2.2.2.2.2.2.2.2.2.2.2.2.1)
                                              have HS22_ := (hb.cell (World.block_lt_of_cell? _ _ (hHeld.2.2.2.2.2.2.2.2.2.2.2.2.2.2.2.2.2.2.2.2.2.2.1))).trans (hHeld.2.2.2.2.2.2.2.2.2.2.2.2.2.2.2.2.2.2.2.2.2.2.1)
                                              have HS23_ := (hb.cell (World.block_lt_of_cell? _ _ (hHeld.2.2.2.2.2.2.2.2.2.2.2.2.2.2.2.2.2.2.2.2.2.2.2))).trans (hHeld.2.2.2.2.2.2.2.2.2.2.2.2.2.2.2.2.2.2.2.2.2.2.2)
                                              have n0_ := Aside0.mk (Kd.R_below (by (with_reducible repeat (first | apply Kd.R_alloc | apply Kd.R_drewN | apply Kd.R_drew)); exact HO_334000.out) hb)
                                              have n1_ := Aside0.mk (Kd.R_below (Kd.R_elderB (by (with_reducible repeat (first | apply Kd.R_alloc | apply Kd.R_drewN | apply Kd.R_drew)); exact HO_334001.out) gb340 (Nat.le_of_eq hg.symm)) hb)
                                              have n2_ := Aside0.mk (blk_below (g := gb323) (o := .cells #[.slice A0_0 l0_0.length c0_0, .slice (some ad337) l0_1.length c0_1] 25 (0, 0)) (by (with_reducible repeat (first | refine blk_drewN ?_ _ | refine blk_drew ?_ | refine blk_alloc ?_ _)); exact BK323.out) hb)
                                              have n3_ := Aside0.mk (blk_below (g := gb333) (o := .cells #[.slice Ao13 t325.length co13, .slice (some ad338) t328.length co16] 25 (0, 0)) (by (with_reducible repeat (first | refine blk_drewN ?_ _ | refine blk_drew ?_ | refine blk_alloc ?_ _)); exact BK333.out) hb)
                                              have n4_ := Aside0.mk (blk_below (g := gb339) (o := .cells #[.int .i64 0, .int .i64 0, .int .i64 0, .int .i64 0, .int .i64 0, .string (⟨#[]⟩ : ByteArray), .string (⟨#[]⟩ : ByteArray), .string (⟨#[]⟩ : ByteArray), .string (⟨#[]⟩ : ByteArray), .int .i64 0] 34 (0, 0)) (by (with_reducible repeat (first | refine blk_drewN ?_ _ | refine blk_drew ?_ | refine blk_alloc ?_ _)); exact BK339.out) hb)
                                              have n5_ := Aside0.mk (below_step (by repeat (first | (with_reducible first | exact HB.out | apply below_alloc | apply pw_below_drewN | apply below_drew1 | refine below_set ?_ GE323.out | refine below_set ?_ GE333.out | refine below_set ?_ GE339.out) | exact HB.out)) hb)
                                              have n6_ := Aside0.mk (hbox)
                                              have n7_ := Aside0.mk ((by rw [hg]; exact (below_size (by repeat (first | (with_reducible first | exact HB.out | apply below_alloc | apply pw_below_drewN | apply below_drew1 | refine below_set ?_ GE323.out | refine below_set ?_ GE333.out | refine below_set ?_ GE339.out) | exact HB.out))) : w.heap.size ≤ gb340))
                                              have n8_ := Aside0.mk ((by rw [hg]; exact (below_size (by repeat (first | (with_reducible first | exact HB.out | apply below_alloc | apply pw_below_drewN | apply below_drew1 | refine below_set ?_ GE323.out | refine below_set ?_ GE333.out | refine below_set ?_ GE339.out) | exact HB.out))) : w.heap.size ≤ gb340))
                                              have n9_ := Aside0.mk ((by rw [hg]; exact Nat.ne_of_lt (blk_lt (g := gb323) (o := .cells #[.slice A0_0 l0_0.length c0_0, .slice (some ad337) l0_1.length c0_1] 25 (0, 0)) (by (with_reducible repeat (first | refine blk_drewN ?_ _ | refine blk_drew ?_ | refine blk_alloc ?_ _)); exact BK323.out)) : gb323 ≠ gb340))
                                              have n10_ := Aside0.mk ((by rw [hg]; exact Nat.ne_of_gt (blk_lt (g := gb323) (o := .cells #[.slice A0_0 l0_0.length c0_0, .slice (some ad337) l0_1.length c0_1] 25 (0, 0)) (by (with_reducible repeat (first | refine blk_drewN ?_ _ | refine blk_drew ?_ | refine blk_alloc ?_ _)); exact BK323.out)) : gb340 ≠ gb323))
                                              have n11_ := Aside0.mk ((by rw [hg]; exact Nat.ne_of_lt (blk_lt (g := gb333) (o := .cells #[.slice Ao13 t325.length co13, .slice (some ad338) t328.length co16] 25 (0, 0)) (by (with_reducible repeat (first | refine blk_drewN ?_ _ | refine blk_drew ?_ | refine blk_alloc ?_ _)); exact BK333.out)) : gb333 ≠ gb340))
                                              have n12_ := Aside0.mk ((by rw [hg]; exact Nat.ne_of_gt (blk_lt (g := gb333) (o := .cells #[.slice Ao13 t325.length co13, .slice (some ad338) t328.length co16] 25 (0, 0)) (by (with_reducible repeat (first | refine blk_drewN ?_ _ | refine blk_drew ?_ | refine blk_alloc ?_ _)); exact BK333.out)) : gb340 ≠ gb333))
                                              have n13_ := Aside0.mk ((by rw [hg]; exact Nat.ne_of_lt (blk_lt (g := gb339) (o := .cells #[.int .i64 0, .int .i64 0, .int .i64 0, .int .i64 0, .int .i64 0, .string (⟨#[]⟩ : ByteArray), .string (⟨#[]⟩ : ByteArray), .string (⟨#[]⟩ : ByteArray), .string (⟨#[]⟩ : ByteArray), .int .i64 0] 34 (0, 0)) (by (with_reducible repeat (first | refine blk_drewN ?_ _ | refine blk_drew ?_ | refine blk_alloc ?_ _)); exact BK339.out)) : gb339 ≠ gb340))
                                              have n14_ := Aside0.mk ((by rw [hg]; exact Nat.ne_of_gt (blk_lt (g := gb339) (o := .cells #[.int .i64 0, .int .i64 0, .int .i64 0, .int .i64 0, .int .i64 0, .string (⟨#[]⟩ : ByteArray), .string (⟨#[]⟩ : ByteArray), .string (⟨#[]⟩ : ByteArray), .string (⟨#[]⟩ : ByteArray), .int .i64 0] 34 (0, 0)) (by (with_reducible repeat (first | refine blk_drewN ?_ _ | refine blk_drew ?_ | refine blk_alloc ?_ _)); exact BK339.out)) : gb340 ≠ gb339))
                                              clear HO_334000
                                              clear HO_334001
                                              clear BK323
                                              clear BK333
                                              clear BK339
                                              clear HB
                                              have HO_334000 := n0_
                                              have HO_334001 := n1_
                                              have BK323 := n2_
                                              have BK333 := n3_
                                              have BK339 := n4_
                                              have HB := n5_
                                              have BK340 := n6_
                                              have GW340 := n7_
                                              have GE340 := n8_
                                              have NB323_340 := n9_
                                              have NB340_323 := n10_
                                              have NB333_340 := n11_
                                              have NB340_333 := n12_
                                              have NB339_340 := n13_
                                              have NB340_339 := n14_
                                              clear n0_ n1_ n2_ n3_ n4_ n5_ n6_ n7_ n8_ n9_ n10_ n11_ n12_ n13_ n14_
                                              clear hb hbox hg
                                              refine hK.out _ _ ⟨(blk_cell BK323.out 0).trans rfl, (blk_cell BK323.out 1).trans rfl, (blk_cell BK333.out 0).trans rfl, (blk_cell BK333.out 1).trans rfl, ((HB.out.cell (World.block_lt_of_cell? w _ hw337_0)).trans hw337_0), ((HB.out.cell (World.block_lt_of_cell? w _ hw337_1)).trans hw337_1), ((HB.out.cell (World.block_lt_of_cell? w _ hw337_2)).trans hw337_2), ((HB.out.cell (World.block_lt_of_cell? w _ hw337_3)).trans hw337_3), ((HB.out.cell (World.block_lt_of_cell? w _ hw337_4)).trans hw337_4), ((HB.out.cell (World.block_lt_of_cell? w _ hw337_5)).trans hw337_5), ((HB.out.cell (World.block_lt_of_cell? w _ hw337_6)).trans hw337_6), ((HB.out.cell (World.block_lt_of_cell? w _ hw337_7)).trans hw337_7), ((HB.out.cell (World.block_lt_of_cell? w _ hw337_8)).trans hw337_8), ((HB.out.cell (World.block_lt_of_cell? w _ hw337_9)).trans hw337_9), HS14_, HS15_, HS16_, HS17_, HS18_, HS19_, HS20_, HS21_, HS22_, HS23_⟩ (fun hHeld => ?_)
                                              clear hK K
                                              refine norm_ (a' := ?_) ?_ ?_
                                              rotate_left
                                              · show Act.put _ (some 8) _ = _
                                                simp only [Act.put, List.setIfInBounds_toArray, List.set_cons_zero, List.set_cons_succ, i64_w, i32_w]
                                                rfl
                                              exact norm_ (by simp only [putAll, Act.put, List.setIfInBounds_toArray, List.set_cons_zero, List.set_cons_succ]) (hCont (gb339, gb340) _ ⟨hHeld, (by (with_reducible repeat (first | apply Kd.R_alloc | apply Kd.R_drewN | apply Kd.R_drew)); exact HO_334000.out), (by (with_reducible repeat (first | apply Kd.R_alloc | apply Kd.R_drewN | apply Kd.R_drew)); exact Kd.R_mono HO_334001.out (fun _ hk => ⟨hk.1.2, hk.2⟩)), (by (with_reducible repeat (first | refine blk_drewN ?_ _ | refine blk_drew ?_ | refine blk_alloc ?_ _)); exact BK323.out), (by (with_reducible repeat (first | refine blk_drewN ?_ _ | refine blk_drew ?_ | refine blk_alloc ?_ _)); exact BK333.out), (by (with_reducible repeat (first | refine blk_drewN ?_ _ | refine blk_drew ?_ | refine blk_alloc ?_ _)); exact BK339.out), (by (with_reducible repeat (first | refine blk_drewN ?_ _ | refine blk_drew ?_ | refine blk_alloc ?_ _)); exact BK340.out), GW339.out, GE339.out, NB323_339.out, NB339_323.out, NB333_339.out, NB339_333.out, NB340_339.out, NB339_340.out, GW340.out, GE340.out, NB323_340.out, NB340_323.out, NB333_340.out, NB340_333.out, (by repeat (first | (with_reducible first | exact HB.out | apply below_alloc | apply pw_below_drewN | apply below_drew1 | refine below_set ?_ GE323.out | refine below_set ?_ GE333.out | refine below_set ?_ GE339.out | refine below_set ?_ GE340.out) | exact HB.out))⟩)
                                            · skip
                                              refine box_step ?hg (N := 8) ?hd (cs := #[.int .i64 0, .int .i64 0, .int .i64 0, .int .i64 0, .int .i64 0, .string (⟨#[]⟩ : ByteArray), .string (⟨#[]⟩ : ByteArray), .string (⟨#[]⟩ : ByteArray), .string (⟨#[]⟩ : ByteArray), .int .i64 0]) (t := 34) ?hr ?_; (case hd => rfl); (case hg => rfl); (case hr => first | (go_simp; done) | (go_simp; rfl))
                                              intro gb340 hg w55 hbox hb
                                              have HS14_ := (hb.cell (World.block_lt_of_cell? _ _ (hHeld.2.2.2.2.2.2.2.2.2.2.2.2.2.2.1))).trans (hHeld.2.2.2.2.2.2.2.2.2.2.2.2.2.2.1)
                                              have HS15_ := (hb.cell (World.block_lt_of_cell? _ _ (hHeld.2.2.2.2.2.2.2.2.2.2.2.2.2.2.2.1))).trans (hHeld.2.2.2.2.2.2.2.2.2.2.2.2.2.2.2.1)
                                              have HS16_ := (hb.cell (World.block_lt_of_cell? _ _ (hHeld.2.2.2.2.2.2.2.2.2.2.2.2.2.2.2.2.1))).trans (hHeld.2.2.2.2.2.2.2.2.2.2.2.2.2.2.2.2.1)
                                              have HS17_ := (hb.cell (World.block_lt_of_cell? _ _ (hHeld.2.2.2.2.2.2.2.2.2.2.2.2.2.2.2.2.2.1))).trans (hHeld.2.2.2.2.2.2.2.2.2.2.2.2.2.2.2.2.2.1)
                                              have HS18_ := (hb.cell (World.block_lt_of_cell? _ _ (hHeld.2.2.2.2.2.2.2.2.2.2.2.2.2.2.2.2.2.2.1))).trans (hHeld.2.2.2.2.2.2.2.2.2.2.2.2.2.2.2.2.2.2.1)
                                              have HS19_ := (hb.cell (World.block_lt_of_cell? _ _ (hHeld.2.2.2.2.2.2.2.2.2.2.2.2.2.2.2.2.2.2.2.1))).trans (hHeld.2.2.2.2.2.2.2.2.2.2.2.2.2.2.2.2.2.2.2.1)
                                              have HS20_ := (hb.cell (World.block_lt_of_cell? _ _ (hHeld.2.2.2.2.2.2.2.2.2.2.2.2.2.2.2.2.2.2.2.2.1))).trans (hHeld.2.2.2.2.2.2.2.2.2.2.2.2.2.2.2.2.2.2.2.2.1)
                                              have HS21_ := (hb.cell (World.block_lt_of_cell? _ _ (hHeld.2.2.2.2.2.2.2.2.2.2.2.2.2.2.2.2.2.2.2.2.2.1))).trans (hHeld.2.2.2.2.2.2.2.2.2.2.2.2.2.2.2.2.2.2.2.2.2.1)
                                              have HS22_ := (hb.cell (World.block_lt_of_cell? _ _ (hHeld.2.2.2.2.2.2.2.2.2.2.2.2.2.2.2.2.2.2.2.2.2.2.1))).trans (hHeld.2.2.2.2.2.2.2.2.2.2.2.2.2.2.2.2.2.2.2.2.2.2.1)
                                              have HS23_ := (hb.cell (World.block_lt_of_cell? _ _ (hHeld.2.2.2.2.2.2.2.2.2.2.2.2.2.2.2.2.2.2.2.2.2.2.2))).trans (hHeld.2.2.2.2.2.2.2.2.2.2.2.2.2.2.2.2.2.2.2.2.2.2.2)
                                              have n0_ := Aside0.mk (Kd.R_below (by (with_reducible repeat (first | apply Kd.R_alloc | apply Kd.R_drewN | apply Kd.R_drew)); exact HO_334000.out) hb)
                                              have n1_ := Aside0.mk (Kd.R_below (Kd.R_elderB (by (with_reducible repeat (first | apply Kd.R_alloc | apply Kd.R_drewN | apply Kd.R_drew)); exact HO_334001.out) gb340 (Nat.le_of_eq hg.symm)) hb)
                                              have n2_ := Aside0.mk (blk_below (g := gb323) (o := .cells #[.slice A0_0 l0_0.length c0_0, .slice (some ad337) l0_1.length c0_1] 25 (0, 0)) (by (with_reducible repeat (first | refine blk_drewN ?_ _ | refine blk_drew ?_ | refine blk_alloc ?_ _)); exact BK323.out) hb)
                                              have n3_ := Aside0.mk (blk_below (g := gb333) (o := .cells #[.slice Ao13 t325.length co13, .slice (some ad338) t328.length co16] 25 (0, 0)) (by (with_reducible repeat (first | refine blk_drewN ?_ _ | refine blk_drew ?_ | refine blk_alloc ?_ _)); exact BK333.out) hb)
                                              have n4_ := Aside0.mk (below_step (by repeat (first | (with_reducible first | exact HB.out | apply below_alloc | apply pw_below_drewN | apply below_drew1 | refine below_set ?_ GE323.out | refine below_set ?_ GE333.out) | exact HB.out)) hb)
                                              have n5_ := Aside0.mk (hbox)
                                              have n6_ := Aside0.mk ((by rw [hg]; exact (below_size (by repeat (first | (with_reducible first | exact HB.out | apply below_alloc | apply pw_below_drewN | apply below_drew1 | refine below_set ?_ GE323.out | refine below_set ?_ GE333.out) | exact HB.out))) : w.heap.size ≤ gb340))
                                              have n7_ := Aside0.mk ((by rw [hg]; exact (below_size (by repeat (first | (with_reducible first | exact HB.out | apply below_alloc | apply pw_below_drewN | apply below_drew1 | refine below_set ?_ GE323.out | refine below_set ?_ GE333.out) | exact HB.out))) : w.heap.size ≤ gb340))
                                              have n8_ := Aside0.mk ((by rw [hg]; exact Nat.ne_of_lt (blk_lt (g := gb323) (o := .cells #[.slice A0_0 l0_0.length c0_0, .slice (some ad337) l0_1.length c0_1] 25 (0, 0)) (by (with_reducible repeat (first | refine blk_drewN ?_ _ | refine blk_drew ?_ | refine blk_alloc ?_ _)); exact BK323.out)) : gb323 ≠ gb340))
                                              have n9_ := Aside0.mk ((by rw [hg]; exact Nat.ne_of_gt (blk_lt (g := gb323) (o := .cells #[.slice A0_0 l0_0.length c0_0, .slice (some ad337) l0_1.length c0_1] 25 (0, 0)) (by (with_reducible repeat (first | refine blk_drewN ?_ _ | refine blk_drew ?_ | refine blk_alloc ?_ _)); exact BK323.out)) : gb340 ≠ gb323))
                                              have n10_ := Aside0.mk ((by rw [hg]; exact Nat.ne_of_lt (blk_lt (g := gb333) (o := .cells #[.slice Ao13 t325.length co13, .slice (some ad338) t328.length co16] 25 (0, 0)) (by (with_reducible repeat (first | refine blk_drewN ?_ _ | refine blk_drew ?_ | refine blk_alloc ?_ _)); exact BK333.out)) : gb333 ≠ gb340))
                                              have n11_ := Aside0.mk ((by rw [hg]; exact Nat.ne_of_gt (blk_lt (g := gb333) (o := .cells #[.slice Ao13 t325.length co13, .slice (some ad338) t328.length co16] 25 (0, 0)) (by (with_reducible repeat (first | refine blk_drewN ?_ _ | refine blk_drew ?_ | refine blk_alloc ?_ _)); exact BK333.out)) : gb340 ≠ gb333))
                                              clear HO_334000
                                              clear HO_334001
                                              clear BK323
                                              clear BK333
                                              clear HB
                                              have HO_334000 := n0_
                                              have HO_334001 := n1_
                                              have BK323 := n2_
                                              have BK333 := n3_
                                              have HB := n4_
                                              have BK340 := n5_
                                              have GW340 := n6_
                                              have GE340 := n7_
                                              have NB323_340 := n8_
                                              have NB340_323 := n9_
                                              have NB333_340 := n10_
                                              have NB340_333 := n11_
                                              clear n0_ n1_ n2_ n3_ n4_ n5_ n6_ n7_ n8_ n9_ n10_ n11_
                                              clear hb hbox hg
                                              refine hK.out _ _ ⟨(blk_cell BK323.out 0).trans rfl, (blk_cell BK323.out 1).trans rfl, (blk_cell BK333.out 0).trans rfl, (blk_cell BK333.out 1).trans rfl, ((HB.out.cell (World.block_lt_of_cell? w _ hw337_0)).trans hw337_0), ((HB.out.cell (World.block_lt_of_cell? w _ hw337_1)).trans hw337_1), ((HB.out.cell (World.block_lt_of_cell? w _ hw337_2)).trans hw337_2), ((HB.out.cell (World.block_lt_of_cell? w _ hw337_3)).trans hw337_3), ((HB.out.cell (World.block_lt_of_cell? w _ hw337_4)).trans hw337_4), ((HB.out.cell (World.block_lt_of_cell? w _ hw337_5)).trans hw337_5), ((HB.out.cell (World.block_lt_of_cell? w _ hw337_6)).trans hw337_6), ((HB.out.cell (World.block_lt_of_cell? w _ hw337_7)).trans hw337_7), ((HB.out.cell (World.block_lt_of_cell? w _ hw337_8)).trans hw337_8), ((HB.out.cell (World.block_lt_of_cell? w _ hw337_9)).trans hw337_9), HS14_, HS15_, HS16_, HS17_, HS18_, HS19_, HS20_, HS21_, HS22_, HS23_⟩ (fun hHeld => ?_)
                                              clear hK K
                                              refine norm_ (a' := ?_) ?_ ?_
                                              rotate_left
                                              · show Act.put _ (some 8) _ = _
                                                simp only [Act.put, List.setIfInBounds_toArray, List.set_cons_zero, List.set_cons_succ, i64_w, i32_w]
                                                rfl
                                              refine one_ (i := 10) (N := some 7) #[true, true, true, true, true, true, true, true, true, true, true, true, false, false] rfl rfl (one_of HT_.out (by kernel_rfl)) (by decide) (fun K hK => ?_)
                                              refine box_step ?hg (N := 7) ?hd (cs := #[.int .i64 0, .int .i64 0, .int .i64 0, .int .i64 0, .int .i64 0, .string (⟨#[]⟩ : ByteArray), .string (⟨#[]⟩ : ByteArray), .string (⟨#[]⟩ : ByteArray), .string (⟨#[]⟩ : ByteArray), .int .i64 0]) (t := 34) ?hr ?_; (case hd => rfl); (case hg => rfl); (case hr => first | (go_simp; done) | (go_simp; rfl))
                                              intro gb339 hg w56 hbox hb
                                              have HS14_ := (hb.cell (World.block_lt_of_cell? _ _ (hHeld.2.2.2.2.2.2.2.2.2.2.2.2.2.2.1))).trans (hHeld.2.2.2.2.2.2.2.2.2.2.2.2.2.2.1)
                                              have HS15_ := (hb.cell (World.block_lt_of_cell? _ _ (hHeld.2.2.2.2.2.2.2.2.2.2.2.2.2.2.2.1))).trans (hHeld.2.2.2.2.2.2.2.2.2.2.2.2.2.2.2.1)
                                              have HS16_ := (hb.cell (World.block_lt_of_cell? _ _ (hHeld.2.2.2.2.2.2.2.2.2.2.2.2.2.2.2.2.1))).trans (hHeld.2.2.2.2.2.2.2.2.2.2.2.2.2.2.2.2.1)
                                              have HS17_ := (hb.cell (World.block_lt_of_cell? _ _ (hHeld.2.2.2.2.2.2.2.2.2.2.2.2.2.2.2.2.2.1))).trans (hHeld.2.2.2.2.2.2.2.2.2.2.2.2.2.2.2.2.2.1)
                                              have HS18_ := (hb.cell (World.block_lt_of_cell? _ _ (hHeld.2.2.2.2.2.2.2.2.2.2.2.2.2.2.2.2.2.2.1))).trans (hHeld.2.2.2.2.2.2.2.2.2.2.2.2.2.2.2.2.2.2.1)
                                              have HS19_ := (hb.cell (World.block_lt_of_cell? _ _ (hHeld.2.2.2.2.2.2.2.2.2.2.2.2.2.2.2.2.2.2.2.1))).trans (hHeld.2.2.2.2.2.2.2.2.2.2.2.2.2.2.2.2.2.2.2.1)
                                              have HS20_ := (hb.cell (World.block_lt_of_cell? _ _ (hHeld.2.2.2.2.2.2.2.2.2.2.2.2.2.2.2.2.2.2.2.2.1))).trans (hHeld.2.2.2.2.2.2.2.2.2.2.2.2.2.2.2.2.2.2.2.2.1)
                                              have HS21_ := (hb.cell (World.block_lt_of_cell? _ _ (hHeld.2.2.2.2.2.2.2.2.2.2.2.2.2.2.2.2.2.2.2.2.2.1))).trans (hHeld.2.2.2.2.2.2.2.2.2.2.2.2.2.2.2.2.2.2.2.2.2.1)
                                              have HS22_ := (hb.cell (World.block_lt_of_cell? _ _ (hHeld.2.2.2.2.2.2.2.2.2.2.2.2.2.2.2.2.2.2.2.2.2.2.1))).trans (hHeld.2.2.2.2.2.2.2.2.2.2.2.2.2.2.2.2.2.2.2.2.2.2.1)
                                              have HS23_ := (hb.cell (World.block_lt_of_cell? _ _ (hHeld.2.2.2.2.2.2.2.2.2.2.2.2.2.2.2.2.2.2.2.2.2.2.2))).trans (hHeld.2.2.2.2.2.2.2.2.2.2.2.2.2.2.2.2.2.2.2.2.2.2.2)
                                              have n0_ := Aside0.mk (Kd.R_below (by (with_reducible repeat (first | apply Kd.R_alloc | apply Kd.R_drewN | apply Kd.R_drew)); exact HO_334000.out) hb)
                                              have n1_ := Aside0.mk (Kd.R_below (Kd.R_elderB (by (with_reducible repeat (first | apply Kd.R_alloc | apply Kd.R_drewN | apply Kd.R_drew)); exact HO_334001.out) gb339 (Nat.le_of_eq hg.symm)) hb)
                                              have n2_ := Aside0.mk (blk_below (g := gb323) (o := .cells #[.slice A0_0 l0_0.length c0_0, .slice (some ad337) l0_1.length c0_1] 25 (0, 0)) (by (with_reducible repeat (first | refine blk_drewN ?_ _ | refine blk_drew ?_ | refine blk_alloc ?_ _)); exact BK323.out) hb)
                                              have n3_ := Aside0.mk (blk_below (g := gb333) (o := .cells #[.slice Ao13 t325.length co13, .slice (some ad338) t328.length co16] 25 (0, 0)) (by (with_reducible repeat (first | refine blk_drewN ?_ _ | refine blk_drew ?_ | refine blk_alloc ?_ _)); exact BK333.out) hb)
                                              have n4_ := Aside0.mk (blk_below (g := gb340) (o := .cells #[.int .i64 0, .int .i64 0, .int .i64 0, .int .i64 0, .int .i64 0, .string (⟨#[]⟩ : ByteArray), .string (⟨#[]⟩ : ByteArray), .string (⟨#[]⟩ : ByteArray), .string (⟨#[]⟩ : ByteArray), .int .i64 0] 34 (0, 0)) (by (with_reducible repeat (first | refine blk_drewN ?_ _ | refine blk_drew ?_ | refine blk_alloc ?_ _)); exact BK340.out) hb)
                                              have n5_ := Aside0.mk (below_step (by repeat (first | (with_reducible first | exact HB.out | apply below_alloc | apply pw_below_drewN | apply below_drew1 | refine below_set ?_ GE323.out | refine below_set ?_ GE333.out | refine below_set ?_ GE340.out) | exact HB.out)) hb)
                                              have n6_ := Aside0.mk (hbox)
                                              have n7_ := Aside0.mk ((by rw [hg]; exact (below_size (by repeat (first | (with_reducible first | exact HB.out | apply below_alloc | apply pw_below_drewN | apply below_drew1 | refine below_set ?_ GE323.out | refine below_set ?_ GE333.out | refine below_set ?_ GE340.out) | exact HB.out))) : w.heap.size ≤ gb339))
                                              have n8_ := Aside0.mk ((by rw [hg]; exact (below_size (by repeat (first | (with_reducible first | exact HB.out | apply below_alloc | apply pw_below_drewN | apply below_drew1 | refine below_set ?_ GE323.out | refine below_set ?_ GE333.out | refine below_set ?_ GE340.out) | exact HB.out))) : w.heap.size ≤ gb339))
                                              have n9_ := Aside0.mk ((by rw [hg]; exact Nat.ne_of_lt (blk_lt (g := gb323) (o := .cells #[.slice A0_0 l0_0.length c0_0, .slice (some ad337) l0_1.length c0_1] 25 (0, 0)) (by (with_reducible repeat (first | refine blk_drewN ?_ _ | refine blk_drew ?_ | refine blk_alloc ?_ _)); exact BK323.out)) : gb323 ≠ gb339))
                                              have n10_ := Aside0.mk ((by rw [hg]; exact Nat.ne_of_gt (blk_lt (g := gb323) (o := .cells #[.slice A0_0 l0_0.length c0_0, .slice (some ad337) l0_1.length c0_1] 25 (0, 0)) (by (with_reducible repeat (first | refine blk_drewN ?_ _ | refine blk_drew ?_ | refine blk_alloc ?_ _)); exact BK323.out)) : gb339 ≠ gb323))
                                              have n11_ := Aside0.mk ((by rw [hg]; exact Nat.ne_of_lt (blk_lt (g := gb333) (o := .cells #[.slice Ao13 t325.length co13, .slice (some ad338) t328.length co16] 25 (0, 0)) (by (with_reducible repeat (first | refine blk_drewN ?_ _ | refine blk_drew ?_ | refine blk_alloc ?_ _)); exact BK333.out)) : gb333 ≠ gb339))
                                              have n12_ := Aside0.mk ((by rw [hg]; exact Nat.ne_of_gt (blk_lt (g := gb333) (o := .cells #[.slice Ao13 t325.length co13, .slice (some ad338) t328.length co16] 25 (0, 0)) (by (with_reducible repeat (first | refine blk_drewN ?_ _ | refine blk_drew ?_ | refine blk_alloc ?_ _)); exact BK333.out)) : gb339 ≠ gb333))
                                              have n13_ := Aside0.mk ((by rw [hg]; exact Nat.ne_of_lt (blk_lt (g := gb340) (o := .cells #[.int .i64 0, .int .i64 0, .int .i64 0, .int .i64 0, .int .i64 0, .string (⟨#[]⟩ : ByteArray), .string (⟨#[]⟩ : ByteArray), .string (⟨#[]⟩ : ByteArray), .string (⟨#[]⟩ : ByteArray), .int .i64 0] 34 (0, 0)) (by (with_reducible repeat (first | refine blk_drewN ?_ _ | refine blk_drew ?_ | refine blk_alloc ?_ _)); exact BK340.out)) : gb340 ≠ gb339))
                                              have n14_ := Aside0.mk ((by rw [hg]; exact Nat.ne_of_gt (blk_lt (g := gb340) (o := .cells #[.int .i64 0, .int .i64 0, .int .i64 0, .int .i64 0, .int .i64 0, .string (⟨#[]⟩ : ByteArray), .string (⟨#[]⟩ : ByteArray), .string (⟨#[]⟩ : ByteArray), .string (⟨#[]⟩ : ByteArray), .int .i64 0] 34 (0, 0)) (by (with_reducible repeat (first | refine blk_drewN ?_ _ | refine blk_drew ?_ | refine blk_alloc ?_ _)); exact BK340.out)) : gb339 ≠ gb340))
                                              clear HO_334000
                                              clear HO_334001
                                              clear BK323
                                              clear BK333
                                              clear BK340
                                              clear HB
                                              have HO_334000 := n0_
                                              have HO_334001 := n1_
                                              have BK323 := n2_
                                              have BK333 := n3_
                                              have BK340 := n4_
                                              have HB := n5_
                                              have BK339 := n6_
                                              have GW339 := n7_
                                              have GE339 := n8_
                                              have NB323_339 := n9_
                                              have NB339_323 := n10_
                                              have NB333_339 := n11_
                                              have NB339_333 := n12_
                                              have NB340_339 := n13_
                                              have NB339_340 := n14_
                                              clear n0_ n1_ n2_ n3_ n4_ n5_ n6_ n7_ n8_ n9_ n10_ n11_ n12_ n13_ n14_
                                              clear hb hbox hg
                                              refine hK.out _ _ ⟨(blk_cell BK323.out 0).trans rfl, (blk_cell BK323.out 1).trans rfl, (blk_cell BK333.out 0).trans rfl, (blk_cell BK333.out 1).trans rfl, ((HB.out.cell (World.block_lt_of_cell? w _ hw337_0)).trans hw337_0), ((HB.out.cell (World.block_lt_of_cell? w _ hw337_1)).trans hw337_1), ((HB.out.cell (World.block_lt_of_cell? w _ hw337_2)).trans hw337_2), ((HB.out.cell (World.block_lt_of_cell? w _ hw337_3)).trans hw337_3), ((HB.out.cell (World.block_lt_of_cell? w _ hw337_4)).trans hw337_4), ((HB.out.cell (World.block_lt_of_cell? w _ hw337_5)).trans hw337_5), ((HB.out.cell (World.block_lt_of_cell? w _ hw337_6)).trans hw337_6), ((HB.out.cell (World.block_lt_of_cell? w _ hw337_7)).trans hw337_7), ((HB.out.cell (World.block_lt_of_cell? w _ hw337_8)).trans hw337_8), ((HB.out.cell (World.block_lt_of_cell? w _ hw337_9)).trans hw337_9), HS14_, HS15_, HS16_, HS17_, HS18_, HS19_, HS20_, HS21_, HS22_, HS23_⟩ (fun hHeld => ?_)
                                              clear hK K
                                              refine norm_ (a' := ?_) ?_ ?_
                                              rotate_left
                                              · show Act.put _ (some 7) _ = _
                                                simp only [Act.put, List.setIfInBounds_toArray, List.set_cons_zero, List.set_cons_succ, i64_w, i32_w]
                                                rfl
                                              exact norm_ (by simp only [putAll, Act.put, List.setIfInBounds_toArray, List.set_cons_zero, List.set_cons_succ]) (hCont (gb339, gb340) _ ⟨hHeld, (by (with_reducible repeat (first | apply Kd.R_alloc | apply Kd.R_drewN | apply Kd.R_drew)); exact HO_334000.out), (by (with_reducible repeat (first | apply Kd.R_alloc | apply Kd.R_drewN | apply Kd.R_drew)); exact Kd.R_mono HO_334001.out (fun _ hk => ⟨hk.2, hk.1.2⟩)), (by (with_reducible repeat (first | refine blk_drewN ?_ _ | refine blk_drew ?_ | refine blk_alloc ?_ _)); exact BK323.out), (by (with_reducible repeat (first | refine blk_drewN ?_ _ | refine blk_drew ?_ | refine blk_alloc ?_ _)); exact BK333.out), (by (with_reducible repeat (first | refine blk_drewN ?_ _ | refine blk_drew ?_ | refine blk_alloc ?_ _)); exact BK339.out), (by (with_reducible repeat (first | refine blk_drewN ?_ _ | refine blk_drew ?_ | refine blk_alloc ?_ _)); exact BK340.out), GW339.out, GE339.out, NB323_339.out, NB339_323.out, NB333_339.out, NB339_333.out, NB340_339.out, NB339_340.out, GW340.out, GE340.out, NB323_340.out, NB340_323.out, NB333_340.out, NB340_333.out, (by repeat (first | (with_reducible first | exact HB.out | apply below_alloc | apply pw_below_drewN | apply below_drew1 | refine below_set ?_ GE323.out | refine below_set ?_ GE333.out | refine below_set ?_ GE340.out | refine below_set ?_ GE339.out) | exact HB.out))⟩)
                                          rintro ⟨gb339, gb340⟩ w57 ⟨hS_, h0_, h1_, h2_, h3_, h4_, h5_, h6_, h7_, h8_, h9_, h10_, h11_, h12_, h13_, h14_, h15_, h16_, h17_, h18_, h19_, h20_⟩
                                          have n0_ : Aside0 (Kd.R k45 45 w57 w.heap.size (fun _ => True) (.slice Ao13 t325.length co13) t325) := ⟨h0_⟩
                                          have n1_ : Aside0 (Kd.R k34 34 w57 w.heap.size (fun k_ => k_ ≠ gb339 ∧ k_ ≠ gb340) (.slice (some ad338) t328.length co16) t328) := ⟨h1_⟩
                                          have n2_ : Aside0 (w57.heap[gb323]? = some (.cells #[.slice A0_0 l0_0.length c0_0, .slice (some ad337) l0_1.length c0_1] 25 (0, 0))) := ⟨h2_⟩
                                          have n3_ : Aside0 (w57.heap[gb333]? = some (.cells #[.slice Ao13 t325.length co13, .slice (some ad338) t328.length co16] 25 (0, 0))) := ⟨h3_⟩
                                          have n4_ : Aside0 (w57.heap[gb339]? = some (.cells #[.int .i64 0, .int .i64 0, .int .i64 0, .int .i64 0, .int .i64 0, .string (⟨#[]⟩ : ByteArray), .string (⟨#[]⟩ : ByteArray), .string (⟨#[]⟩ : ByteArray), .string (⟨#[]⟩ : ByteArray), .int .i64 0] 34 (0, 0))) := ⟨h4_⟩
                                          have n5_ : Aside0 (w57.heap[gb340]? = some (.cells #[.int .i64 0, .int .i64 0, .int .i64 0, .int .i64 0, .int .i64 0, .string (⟨#[]⟩ : ByteArray), .string (⟨#[]⟩ : ByteArray), .string (⟨#[]⟩ : ByteArray), .string (⟨#[]⟩ : ByteArray), .int .i64 0] 34 (0, 0))) := ⟨h5_⟩
                                          have n6_ : Aside0 (w.heap.size ≤ gb339) := ⟨h6_⟩
                                          have n7_ : Aside0 (w.heap.size ≤ gb339) := ⟨h7_⟩
                                          have n8_ : Aside0 (gb323 ≠ gb339) := ⟨h8_⟩
                                          have n9_ : Aside0 (gb339 ≠ gb323) := ⟨h9_⟩
                                          have n10_ : Aside0 (gb333 ≠ gb339) := ⟨h10_⟩
                                          have n11_ : Aside0 (gb339 ≠ gb333) := ⟨h11_⟩
                                          have n12_ : Aside0 (gb340 ≠ gb339) := ⟨h12_⟩
                                          have n13_ : Aside0 (gb339 ≠ gb340) := ⟨h13_⟩
                                          have n14_ : Aside0 (w.heap.size ≤ gb340) := ⟨h14_⟩
                                          have n15_ : Aside0 (w.heap.size ≤ gb340) := ⟨h15_⟩
                                          have n16_ : Aside0 (gb323 ≠ gb340) := ⟨h16_⟩
                                          have n17_ : Aside0 (gb340 ≠ gb323) := ⟨h17_⟩
                                          have n18_ : Aside0 (gb333 ≠ gb340) := ⟨h18_⟩
                                          have n19_ : Aside0 (gb340 ≠ gb333) := ⟨h19_⟩
                                          have n20_ : Aside0 (Below w.heap.size w w57) := ⟨h20_⟩
                                          clear HO_334000
                                          clear HO_334001
                                          clear BK323
                                          clear BK333
                                          clear HB
                                          clear h0_ h1_ h2_ h3_ h4_ h5_ h6_ h7_ h8_ h9_ h10_ h11_ h12_ h13_ h14_ h15_ h16_ h17_ h18_ h19_ h20_
                                          have HO_334000 := n0_
                                          have HO_334001 := n1_
                                          have BK323 := n2_
                                          have BK333 := n3_
                                          have BK339 := n4_
                                          have BK340 := n5_
                                          have GW339 := n6_
                                          have GE339 := n7_
                                          have NB323_339 := n8_
                                          have NB339_323 := n9_
                                          have NB333_339 := n10_
                                          have NB339_333 := n11_
                                          have NB340_339 := n12_
                                          have NB339_340 := n13_
                                          have GW340 := n14_
                                          have GE340 := n15_
                                          have NB323_340 := n16_
                                          have NB340_323 := n17_
                                          have NB333_340 := n18_
                                          have NB340_333 := n19_
                                          have HB := n20_
                                          clear n0_ n1_ n2_ n3_ n4_ n5_ n6_ n7_ n8_ n9_ n10_ n11_ n12_ n13_ n14_ n15_ n16_ n17_ n18_ n19_ n20_
                                          have hHeld : w57.cell? ⟨gb323, 0, none⟩ = some (.slice A0_0 l0_0.length c0_0) ∧ w57.cell? ⟨gb323, 1, none⟩ = some (.slice (some ad337) l0_1.length c0_1) ∧ w57.cell? ⟨gb333, 0, none⟩ = some (.slice Ao13 t325.length co13) ∧ w57.cell? ⟨gb333, 1, none⟩ = some (.slice (some ad338) t328.length co16) ∧ w57.cell? (ad337.add ((x6_2).toNat * 10)) = some (.int .i64 ((rd_T34 l0_1 x6_2).f0)) ∧ w57.cell? ⟨(ad337.add ((x6_2).toNat * 10)).block, (ad337.add ((x6_2).toNat * 10)).off + 1, none⟩ = some (.int .i64 ((rd_T34 l0_1 x6_2).f1)) ∧ w57.cell? ⟨(ad337.add ((x6_2).toNat * 10)).block, (ad337.add ((x6_2).toNat * 10)).off + 2, none⟩ = some (.int .i64 ((rd_T34 l0_1 x6_2).f2)) ∧ w57.cell? ⟨(ad337.add ((x6_2).toNat * 10)).block, (ad337.add ((x6_2).toNat * 10)).off + 3, none⟩ = some (.int .i64 ((rd_T34 l0_1 x6_2).f3)) ∧ w57.cell? ⟨(ad337.add ((x6_2).toNat * 10)).block, (ad337.add ((x6_2).toNat * 10)).off + 4, none⟩ = some (.int .i64 ((rd_T34 l0_1 x6_2).f4)) ∧ w57.cell? ⟨(ad337.add ((x6_2).toNat * 10)).block, (ad337.add ((x6_2).toNat * 10)).off + 5, none⟩ = some (.string ((rd_T34 l0_1 x6_2).f5)) ∧ w57.cell? ⟨(ad337.add ((x6_2).toNat * 10)).block, (ad337.add ((x6_2).toNat * 10)).off + 6, none⟩ = some (.string ((rd_T34 l0_1 x6_2).f6)) ∧ w57.cell? ⟨(ad337.add ((x6_2).toNat * 10)).block, (ad337.add ((x6_2).toNat * 10)).off + 7, none⟩ = some (.string ((rd_T34 l0_1 x6_2).f7)) ∧ w57.cell? ⟨(ad337.add ((x6_2).toNat * 10)).block, (ad337.add ((x6_2).toNat * 10)).off + 8, none⟩ = some (.string ((rd_T34 l0_1 x6_2).f8)) ∧ w57.cell? ⟨(ad337.add ((x6_2).toNat * 10)).block, (ad337.add ((x6_2).toNat * 10)).off + 9, none⟩ = some (.int .i64 ((rd_T34 l0_1 x6_2).f9)) ∧ w57.cell? (ad338.add ((x6_2).toNat * 10)) = some (.int .i64 ((rd_T34 t328 x6_2).f0)) ∧ w57.cell? ⟨(ad338.add ((x6_2).toNat * 10)).block, (ad338.add ((x6_2).toNat * 10)).off + 1, none⟩ = some (.int .i64 ((rd_T34 t328 x6_2).f1)) ∧ w57.cell? ⟨(ad338.add ((x6_2).toNat * 10)).block, (ad338.add ((x6_2).toNat * 10)).off + 2, none⟩ = some (.int .i64 ((rd_T34 t328 x6_2).f2)) ∧ w57.cell? ⟨(ad338.add ((x6_2).toNat * 10)).block, (ad338.add ((x6_2).toNat * 10)).off + 3, none⟩ = some (.int .i64 ((rd_T34 t328 x6_2).f3)) ∧ w57.cell? ⟨(ad338.add ((x6_2).toNat * 10)).block, (ad338.add ((x6_2).toNat * 10)).off + 4, none⟩ = some (.int .i64 ((rd_T34 t328 x6_2).f4)) ∧ w57.cell? ⟨(ad338.add ((x6_2).toNat * 10)).block, (ad338.add ((x6_2).toNat * 10)).off + 5, none⟩ = some (.string ((rd_T34 t328 x6_2).f5)) ∧ w57.cell? ⟨(ad338.add ((x6_2).toNat * 10)).block, (ad338.add ((x6_2).toNat * 10)).off + 6, none⟩ = some (.string ((rd_T34 t328 x6_2).f6)) ∧ w57.cell? ⟨(ad338.add ((x6_2).toNat * 10)).block, (ad338.add ((x6_2).toNat * 10)).off + 7, none⟩ = some (.string ((rd_T34 t328 x6_2).f7)) ∧ w57.cell? ⟨(ad338.add ((x6_2).toNat * 10)).block, (ad338.add ((x6_2).toNat * 10)).off + 8, none⟩ = some (.string ((rd_T34 t328 x6_2).f8)) ∧ w57.cell? ⟨(ad338.add ((x6_2).toNat * 10)).block, (ad338.add ((x6_2).toNat * 10)).off + 9, none⟩ = some (.int .i64 ((rd_T34 t328 x6_2).f9)) := hS_
                                          refine norm_ (a' := ?_) ?_ ?_
                                          rotate_left
                                          · simp only [putAll, Act.put, List.setIfInBounds_toArray, List.set_cons_zero, List.set_cons_succ]
                                            rfl
                                          refine one_ (i := 12) (N := none) #[true, true, true, true, true, true, true, true, true, true, true, true, true, false] rfl rfl (one_of HT_.out (by kernel_rfl)) (by decide) (fun K hK => ?_)
                                          have hs58 : w57.cell? ⟨gb339, 0, none⟩ = some (.int .i64 0) := (blk_cell BK339.out 0).trans rfl
                                          have hfs58 := blk_frozen BK339.out 0
                                          have hns58_0 := NB323_339.out
                                          have hns58_1 := NB333_339.out
                                          have hns58_3 := NB340_339.out
                                          have hms58_0 := NB339_323.out
                                          have hms58_1 := NB339_333.out
                                          have hms58_3 := NB339_340.out
                                          have hs59 : w57.cell? ⟨gb339, 1, none⟩ = some (.int .i64 0) := (blk_cell BK339.out 1).trans rfl
                                          have hfs59 := blk_frozen BK339.out 1
                                          have hns59_0 := NB323_339.out
                                          have hns59_1 := NB333_339.out
                                          have hns59_3 := NB340_339.out
                                          have hms59_0 := NB339_323.out
                                          have hms59_1 := NB339_333.out
                                          have hms59_3 := NB339_340.out
                                          have hs60 : w57.cell? ⟨gb339, 2, none⟩ = some (.int .i64 0) := (blk_cell BK339.out 2).trans rfl
                                          have hfs60 := blk_frozen BK339.out 2
                                          have hns60_0 := NB323_339.out
                                          have hns60_1 := NB333_339.out
                                          have hns60_3 := NB340_339.out
                                          have hms60_0 := NB339_323.out
                                          have hms60_1 := NB339_333.out
                                          have hms60_3 := NB339_340.out
                                          have hs61 : w57.cell? ⟨gb339, 3, none⟩ = some (.int .i64 0) := (blk_cell BK339.out 3).trans rfl
                                          have hfs61 := blk_frozen BK339.out 3
                                          have hns61_0 := NB323_339.out
                                          have hns61_1 := NB333_339.out
                                          have hns61_3 := NB340_339.out
                                          have hms61_0 := NB339_323.out
                                          have hms61_1 := NB339_333.out
                                          have hms61_3 := NB339_340.out
                                          have hs62 : w57.cell? ⟨gb339, 4, none⟩ = some (.int .i64 0) := (blk_cell BK339.out 4).trans rfl
                                          have hfs62 := blk_frozen BK339.out 4
                                          have hns62_0 := NB323_339.out
                                          have hns62_1 := NB333_339.out
                                          have hns62_3 := NB340_339.out
                                          have hms62_0 := NB339_323.out
                                          have hms62_1 := NB339_333.out
                                          have hms62_3 := NB339_340.out
                                          have hs63 : w57.cell? ⟨gb339, 5, none⟩ = some (.string (⟨#[]⟩ : ByteArray)) := (blk_cell BK339.out 5).trans rfl
                                          have hfs63 := blk_frozen BK339.out 5
                                          have hns63_0 := NB323_339.out
                                          have hns63_1 := NB333_339.out
                                          have hns63_3 := NB340_339.out
                                          have hms63_0 := NB339_323.out
                                          have hms63_1 := NB339_333.out
                                          have hms63_3 := NB339_340.out
                                          have hs64 : w57.cell? ⟨gb339, 6, none⟩ = some (.string (⟨#[]⟩ : ByteArray)) := (blk_cell BK339.out 6).trans rfl
                                          have hfs64 := blk_frozen BK339.out 6
                                          have hns64_0 := NB323_339.out
                                          have hns64_1 := NB333_339.out
                                          have hns64_3 := NB340_339.out
                                          have hms64_0 := NB339_323.out
                                          have hms64_1 := NB339_333.out
                                          have hms64_3 := NB339_340.out
                                          have hs65 : w57.cell? ⟨gb339, 7, none⟩ = some (.string (⟨#[]⟩ : ByteArray)) := (blk_cell BK339.out 7).trans rfl
                                          have hfs65 := blk_frozen BK339.out 7
                                          have hns65_0 := NB323_339.out
                                          have hns65_1 := NB333_339.out
                                          have hns65_3 := NB340_339.out
                                          have hms65_0 := NB339_323.out
                                          have hms65_1 := NB339_333.out
                                          have hms65_3 := NB339_340.out
                                          have hs66 : w57.cell? ⟨gb339, 8, none⟩ = some (.string (⟨#[]⟩ : ByteArray)) := (blk_cell BK339.out 8).trans rfl
                                          have hfs66 := blk_frozen BK339.out 8
                                          have hns66_0 := NB323_339.out
                                          have hns66_1 := NB333_339.out
                                          have hns66_3 := NB340_339.out
                                          have hms66_0 := NB339_323.out
                                          have hms66_1 := NB339_333.out
                                          have hms66_3 := NB339_340.out
                                          have hs67 : w57.cell? ⟨gb339, 9, none⟩ = some (.int .i64 0) := (blk_cell BK339.out 9).trans rfl
                                          have hfs67 := blk_frozen BK339.out 9
                                          have hns67_0 := NB323_339.out
                                          have hns67_1 := NB333_339.out
                                          have hns67_3 := NB340_339.out
                                          have hms67_0 := NB339_323.out
                                          have hms67_1 := NB339_333.out
                                          have hms67_3 := NB339_340.out
                                          refine skip_ (w1 := ?_) (by rfl) rfl ?_ ?_
                                          rotate_left
                                          · go_simp
                                            rfl
                                          have hbA339 : ∀ n : Nat, (ad337.add n).block ≠ gb339 := fun n => by rw [add_block]; exact Nat.ne_of_lt (Nat.lt_of_lt_of_le (by have := World.block_lt_of_cell? _ _ hw337_0; first | rwa [add_block] at this | exact this) GW339.out)
                                          have hbB339 : ∀ n : Nat, (ad338.add n).block ≠ gb339 := fun n => by rw [add_block]; exact Kd.own_blk (Kd.R_away HO_334001.out (fun _ hk => hk.1))
                                          refine hK.out _ _ ?hst (fun hHeld => ?_)
                                          case hst => exact ⟨(cell_far10 NB323_339.out (hHeld.1)), (cell_far10 NB323_339.out (hHeld.2.1)), (cell_far10 NB333_339.out (hHeld.2.2.1)), (cell_far10 NB333_339.out (hHeld.2.2.2.1)), (cell_far10 (by exact hbA339 _) (hHeld.2.2.2.2.1)), (cell_far10 (by exact hbA339 _) (hHeld.2.2.2.2.2.1)), (cell_far10 (by exact hbA339 _) (hHeld.2.2.2.2.2.2.1)), (cell_far10 (by exact hbA339 _) (hHeld.2.2.2.2.2.2.2.1)), (cell_far10 (by exact hbA339 _) (hHeld.2.2.2.2.2.2.2.2.1)), (cell_far10 (by exact hbA339 _) (hHeld.2.2.2.2.2.2.2.2.2.1)), (cell_far10 (by exact hbA339 _) (hHeld.2.2.2.2.2.2.2.2.2.2.1)), (cell_far10 (by exact hbA339 _) (hHeld.2.2.2.2.2.2.2.2.2.2.2.1)), (cell_far10 (by exact hbA339 _) (hHeld.2.2.2.2.2.2.2.2.2.2.2.2.1)), (cell_far10 (by exact hbA339 _) (hHeld.2.2.2.2.2.2.2.2.2.2.2.2.2.1)), (cell_far10 (by exact hbB339 _) (hHeld.2.2.2.2.2.2.2.2.2.2.2.2.2.2.1)), (cell_far10 (by exact hbB339 _) (hHeld.2.2.2.2.2.2.2.2.2.2.2.2.2.2.2.1)), (cell_far10 (by exact hbB339 _) (hHeld.2.2.2.2.2.2.2.2.2.2.2.2.2.2.2.2.1)), (cell_far10 (by exact hbB339 _) (hHeld.2.2.2.2.2.2.2.2.2.2.2.2.2.2.2.2.2.1)), (cell_far10 (by exact hbB339 _) (hHeld.2.2.2.2.2.2.2.2.2.2.2.2.2.2.2.2.2.2.1)), (cell_far10 (by exact hbB339 _) (hHeld.2.2.2.2.2.2.2.2.2.2.2.2.2.2.2.2.2.2.2.1)), (cell_far10 (by exact hbB339 _) (hHeld.2.2.2.2.2.2.2.2.2.2.2.2.2.2.2.2.2.2.2.2.1)), (cell_far10 (by exact hbB339 _) (hHeld.2.2.2.2.2.2.2.2.2.2.2.2.2.2.2.2.2.2.2.2.2.1)), (cell_far10 (by exact hbB339 _) (hHeld.2.2.2.2.2.2.2.2.2.2.2.2.2.2.2.2.2.2.2.2.2.2.1)), (cell_far10 (by exact hbB339 _) (hHeld.2.2.2.2.2.2.2.2.2.2.2.2.2.2.2.2.2.2.2.2.2.2.2))⟩
                                          clear hK K
                                          obtain ⟨wcp1, hw_⟩ := hide_ hHeld.1
                                          have n0_ : Aside0 (Kd.R k45 45 wcp1 w.heap.size (fun _ => True) (.slice Ao13 t325.length co13) t325) := ⟨by rw [← hw_]; exact Kd.R_mono (set10_R (x := rd_T34 l0_1 x6_2) (g := gb339) (Kd.R_types HO_334000.out BK339.out (by decide)) (fun _ hk => hk.2)) (fun _ _ => trivial)⟩
                                          have n1_ : Aside0 (Kd.R k34 34 wcp1 w.heap.size (fun k_ => k_ ≠ gb339 ∧ k_ ≠ gb340) (.slice (some ad338) t328.length co16) t328) := ⟨by rw [← hw_]; exact set10_R (x := rd_T34 l0_1 x6_2) (g := gb339) HO_334001.out (fun _ hk => hk.1)⟩
                                          have n2_ : Aside0 (wcp1.heap[gb323]? = some (.cells #[.slice A0_0 l0_0.length c0_0, .slice (some ad337) l0_1.length c0_1] 25 (0, 0))) := ⟨by rw [← hw_]; exact set10_far (x := rd_T34 l0_1 x6_2) BK323.out NB323_339.out⟩
                                          have n3_ : Aside0 (wcp1.heap[gb333]? = some (.cells #[.slice Ao13 t325.length co13, .slice (some ad338) t328.length co16] 25 (0, 0))) := ⟨by rw [← hw_]; exact set10_far (x := rd_T34 l0_1 x6_2) BK333.out NB333_339.out⟩
                                          have n4_ : Aside0 (wcp1.heap[gb339]? = some (.cells #[.int .i64 ((rd_T34 l0_1 x6_2).f0), .int .i64 ((rd_T34 l0_1 x6_2).f1), .int .i64 ((rd_T34 l0_1 x6_2).f2), .int .i64 ((rd_T34 l0_1 x6_2).f3), .int .i64 ((rd_T34 l0_1 x6_2).f4), .string ((rd_T34 l0_1 x6_2).f5), .string ((rd_T34 l0_1 x6_2).f6), .string ((rd_T34 l0_1 x6_2).f7), .string ((rd_T34 l0_1 x6_2).f8), .int .i64 ((rd_T34 l0_1 x6_2).f9)] 34 (0, 0))) := ⟨by rw [← hw_]; exact set10_blk (x := rd_T34 l0_1 x6_2) BK339.out⟩
                                          have n5_ : Aside0 (wcp1.heap[gb340]? = some (.cells #[.int .i64 0, .int .i64 0, .int .i64 0, .int .i64 0, .int .i64 0, .string (⟨#[]⟩ : ByteArray), .string (⟨#[]⟩ : ByteArray), .string (⟨#[]⟩ : ByteArray), .string (⟨#[]⟩ : ByteArray), .int .i64 0] 34 (0, 0))) := ⟨by rw [← hw_]; exact set10_far (x := rd_T34 l0_1 x6_2) BK340.out NB340_339.out⟩
                                          have n6_ : Aside0 (Below w.heap.size w wcp1) := ⟨by rw [← hw_]; exact set10_below (x := rd_T34 l0_1 x6_2) HB.out GE339.out⟩
                                          rw [hw_] at hHeld ⊢
                                          clear hw_ HO_334000 HO_334001 BK323 BK333 BK339 BK340 HB
                                          have HO_334000 := n0_
                                          have HO_334001 := n1_
                                          have BK323 := n2_
                                          have BK333 := n3_
                                          have BK339 := n4_
                                          have BK340 := n5_
                                          have HB := n6_
                                          clear n0_ n1_ n2_ n3_ n4_ n5_ n6_
                                          refine one_ (i := 13) (N := none) #[true, true, true, true, true, true, true, true, true, true, true, true, true, true] rfl rfl (one_of HT_.out (by kernel_rfl)) (by decide) (fun K hK => ?_)
                                          have hs68 : wcp1.cell? ⟨gb340, 0, none⟩ = some (.int .i64 0) := (blk_cell BK340.out 0).trans rfl
                                          have hfs68 := blk_frozen BK340.out 0
                                          have hns68_0 := NB323_340.out
                                          have hns68_1 := NB333_340.out
                                          have hns68_2 := NB339_340.out
                                          have hms68_0 := NB340_323.out
                                          have hms68_1 := NB340_333.out
                                          have hms68_2 := NB340_339.out
                                          have hs69 : wcp1.cell? ⟨gb340, 1, none⟩ = some (.int .i64 0) := (blk_cell BK340.out 1).trans rfl
                                          have hfs69 := blk_frozen BK340.out 1
                                          have hns69_0 := NB323_340.out
                                          have hns69_1 := NB333_340.out
                                          have hns69_2 := NB339_340.out
                                          have hms69_0 := NB340_323.out
                                          have hms69_1 := NB340_333.out
                                          have hms69_2 := NB340_339.out
                                          have hs70 : wcp1.cell? ⟨gb340, 2, none⟩ = some (.int .i64 0) := (blk_cell BK340.out 2).trans rfl
                                          have hfs70 := blk_frozen BK340.out 2
                                          have hns70_0 := NB323_340.out
                                          have hns70_1 := NB333_340.out
                                          have hns70_2 := NB339_340.out
                                          have hms70_0 := NB340_323.out
                                          have hms70_1 := NB340_333.out
                                          have hms70_2 := NB340_339.out
                                          have hs71 : wcp1.cell? ⟨gb340, 3, none⟩ = some (.int .i64 0) := (blk_cell BK340.out 3).trans rfl
                                          have hfs71 := blk_frozen BK340.out 3
                                          have hns71_0 := NB323_340.out
                                          have hns71_1 := NB333_340.out
                                          have hns71_2 := NB339_340.out
                                          have hms71_0 := NB340_323.out
                                          have hms71_1 := NB340_333.out
                                          have hms71_2 := NB340_339.out
                                          have hs72 : wcp1.cell? ⟨gb340, 4, none⟩ = some (.int .i64 0) := (blk_cell BK340.out 4).trans rfl
                                          have hfs72 := blk_frozen BK340.out 4
                                          have hns72_0 := NB323_340.out
                                          have hns72_1 := NB333_340.out
                                          have hns72_2 := NB339_340.out
                                          have hms72_0 := NB340_323.out
                                          have hms72_1 := NB340_333.out
                                          have hms72_2 := NB340_339.out
                                          have hs73 : wcp1.cell? ⟨gb340, 5, none⟩ = some (.string (⟨#[]⟩ : ByteArray)) := (blk_cell BK340.out 5).trans rfl
                                          have hfs73 := blk_frozen BK340.out 5
                                          have hns73_0 := NB323_340.out
                                          have hns73_1 := NB333_340.out
                                          have hns73_2 := NB339_340.out
                                          have hms73_0 := NB340_323.out
                                          have hms73_1 := NB340_333.out
                                          have hms73_2 := NB340_339.out
                                          have hs74 : wcp1.cell? ⟨gb340, 6, none⟩ = some (.string (⟨#[]⟩ : ByteArray)) := (blk_cell BK340.out 6).trans rfl
                                          have hfs74 := blk_frozen BK340.out 6
                                          have hns74_0 := NB323_340.out
                                          have hns74_1 := NB333_340.out
                                          have hns74_2 := NB339_340.out
                                          have hms74_0 := NB340_323.out
                                          have hms74_1 := NB340_333.out
                                          have hms74_2 := NB340_339.out
                                          have hs75 : wcp1.cell? ⟨gb340, 7, none⟩ = some (.string (⟨#[]⟩ : ByteArray)) := (blk_cell BK340.out 7).trans rfl
                                          have hfs75 := blk_frozen BK340.out 7
                                          have hns75_0 := NB323_340.out
                                          have hns75_1 := NB333_340.out
                                          have hns75_2 := NB339_340.out
                                          have hms75_0 := NB340_323.out
                                          have hms75_1 := NB340_333.out
                                          have hms75_2 := NB340_339.out
                                          have hs76 : wcp1.cell? ⟨gb340, 8, none⟩ = some (.string (⟨#[]⟩ : ByteArray)) := (blk_cell BK340.out 8).trans rfl
                                          have hfs76 := blk_frozen BK340.out 8
                                          have hns76_0 := NB323_340.out
                                          have hns76_1 := NB333_340.out
                                          have hns76_2 := NB339_340.out
                                          have hms76_0 := NB340_323.out
                                          have hms76_1 := NB340_333.out
                                          have hms76_2 := NB340_339.out
                                          have hs77 : wcp1.cell? ⟨gb340, 9, none⟩ = some (.int .i64 0) := (blk_cell BK340.out 9).trans rfl
                                          have hfs77 := blk_frozen BK340.out 9
                                          have hns77_0 := NB323_340.out
                                          have hns77_1 := NB333_340.out
                                          have hns77_2 := NB339_340.out
                                          have hms77_0 := NB340_323.out
                                          have hms77_1 := NB340_333.out
                                          have hms77_2 := NB340_339.out
                                          refine skip_ (w1 := ?_) (by rfl) rfl ?_ ?_
                                          rotate_left
                                          · go_simp
                                            rfl
                                          have hbA340 : ∀ n : Nat, (ad337.add n).block ≠ gb340 := fun n => by rw [add_block]; exact Nat.ne_of_lt (Nat.lt_of_lt_of_le (by have := World.block_lt_of_cell? _ _ hw337_0; first | rwa [add_block] at this | exact this) GW340.out)
                                          have hbB340 : ∀ n : Nat, (ad338.add n).block ≠ gb340 := fun n => by rw [add_block]; exact Kd.own_blk (Kd.R_away HO_334001.out (fun _ hk => hk.2))
                                          refine hK.out _ _ ?hst (fun hHeld => ?_)
                                          case hst => exact ⟨(cell_far10 NB323_340.out (hHeld.1)), (cell_far10 NB323_340.out (hHeld.2.1)), (cell_far10 NB333_340.out (hHeld.2.2.1)), (cell_far10 NB333_340.out (hHeld.2.2.2.1)), (cell_far10 (by exact hbA340 _) (hHeld.2.2.2.2.1)), (cell_far10 (by exact hbA340 _) (hHeld.2.2.2.2.2.1)), (cell_far10 (by exact hbA340 _) (hHeld.2.2.2.2.2.2.1)), (cell_far10 (by exact hbA340 _) (hHeld.2.2.2.2.2.2.2.1)), (cell_far10 (by exact hbA340 _) (hHeld.2.2.2.2.2.2.2.2.1)), (cell_far10 (by exact hbA340 _) (hHeld.2.2.2.2.2.2.2.2.2.1)), (cell_far10 (by exact hbA340 _) (hHeld.2.2.2.2.2.2.2.2.2.2.1)), (cell_far10 (by exact hbA340 _) (hHeld.2.2.2.2.2.2.2.2.2.2.2.1)), (cell_far10 (by exact hbA340 _) (hHeld.2.2.2.2.2.2.2.2.2.2.2.2.1)), (cell_far10 (by exact hbA340 _) (hHeld.2.2.2.2.2.2.2.2.2.2.2.2.2.1)), (cell_far10 (by exact hbB340 _) (hHeld.2.2.2.2.2.2.2.2.2.2.2.2.2.2.1)), (cell_far10 (by exact hbB340 _) (hHeld.2.2.2.2.2.2.2.2.2.2.2.2.2.2.2.1)), (cell_far10 (by exact hbB340 _) (hHeld.2.2.2.2.2.2.2.2.2.2.2.2.2.2.2.2.1)), (cell_far10 (by exact hbB340 _) (hHeld.2.2.2.2.2.2.2.2.2.2.2.2.2.2.2.2.2.1)), (cell_far10 (by exact hbB340 _) (hHeld.2.2.2.2.2.2.2.2.2.2.2.2.2.2.2.2.2.2.1)), (cell_far10 (by exact hbB340 _) (hHeld.2.2.2.2.2.2.2.2.2.2.2.2.2.2.2.2.2.2.2.1)), (cell_far10 (by exact hbB340 _) (hHeld.2.2.2.2.2.2.2.2.2.2.2.2.2.2.2.2.2.2.2.2.1)), (cell_far10 (by exact hbB340 _) (hHeld.2.2.2.2.2.2.2.2.2.2.2.2.2.2.2.2.2.2.2.2.2.1)), (cell_far10 (by exact hbB340 _) (hHeld.2.2.2.2.2.2.2.2.2.2.2.2.2.2.2.2.2.2.2.2.2.2.1)), (cell_far10 (by exact hbB340 _) (hHeld.2.2.2.2.2.2.2.2.2.2.2.2.2.2.2.2.2.2.2.2.2.2.2))⟩
                                          clear hK K
                                          obtain ⟨wcp2, hw_⟩ := hide_ hHeld.1
                                          have n0_ : Aside0 (Kd.R k45 45 wcp2 w.heap.size (fun _ => True) (.slice Ao13 t325.length co13) t325) := ⟨by rw [← hw_]; exact Kd.R_mono (set10_R (x := rd_T34 t328 x6_2) (g := gb340) (Kd.R_types HO_334000.out BK340.out (by decide)) (fun _ hk => hk.2)) (fun _ _ => trivial)⟩
                                          have n1_ : Aside0 (Kd.R k34 34 wcp2 w.heap.size (fun k_ => k_ ≠ gb339 ∧ k_ ≠ gb340) (.slice (some ad338) t328.length co16) t328) := ⟨by rw [← hw_]; exact set10_R (x := rd_T34 t328 x6_2) (g := gb340) HO_334001.out (fun _ hk => hk.2)⟩
                                          have n2_ : Aside0 (wcp2.heap[gb323]? = some (.cells #[.slice A0_0 l0_0.length c0_0, .slice (some ad337) l0_1.length c0_1] 25 (0, 0))) := ⟨by rw [← hw_]; exact set10_far (x := rd_T34 t328 x6_2) BK323.out NB323_340.out⟩
                                          have n3_ : Aside0 (wcp2.heap[gb333]? = some (.cells #[.slice Ao13 t325.length co13, .slice (some ad338) t328.length co16] 25 (0, 0))) := ⟨by rw [← hw_]; exact set10_far (x := rd_T34 t328 x6_2) BK333.out NB333_340.out⟩
                                          have n4_ : Aside0 (wcp2.heap[gb339]? = some (.cells #[.int .i64 ((rd_T34 l0_1 x6_2).f0), .int .i64 ((rd_T34 l0_1 x6_2).f1), .int .i64 ((rd_T34 l0_1 x6_2).f2), .int .i64 ((rd_T34 l0_1 x6_2).f3), .int .i64 ((rd_T34 l0_1 x6_2).f4), .string ((rd_T34 l0_1 x6_2).f5), .string ((rd_T34 l0_1 x6_2).f6), .string ((rd_T34 l0_1 x6_2).f7), .string ((rd_T34 l0_1 x6_2).f8), .int .i64 ((rd_T34 l0_1 x6_2).f9)] 34 (0, 0))) := ⟨by rw [← hw_]; exact set10_far (x := rd_T34 t328 x6_2) BK339.out NB339_340.out⟩
                                          have n5_ : Aside0 (wcp2.heap[gb340]? = some (.cells #[.int .i64 ((rd_T34 t328 x6_2).f0), .int .i64 ((rd_T34 t328 x6_2).f1), .int .i64 ((rd_T34 t328 x6_2).f2), .int .i64 ((rd_T34 t328 x6_2).f3), .int .i64 ((rd_T34 t328 x6_2).f4), .string ((rd_T34 t328 x6_2).f5), .string ((rd_T34 t328 x6_2).f6), .string ((rd_T34 t328 x6_2).f7), .string ((rd_T34 t328 x6_2).f8), .int .i64 ((rd_T34 t328 x6_2).f9)] 34 (0, 0))) := ⟨by rw [← hw_]; exact set10_blk (x := rd_T34 t328 x6_2) BK340.out⟩
                                          have n6_ : Aside0 (Below w.heap.size w wcp2) := ⟨by rw [← hw_]; exact set10_below (x := rd_T34 t328 x6_2) HB.out GE340.out⟩
                                          rw [hw_] at hHeld ⊢
                                          clear hw_ HO_334000 HO_334001 BK323 BK333 BK339 BK340 HB
                                          have HO_334000 := n0_
                                          have HO_334001 := n1_
                                          have BK323 := n2_
                                          have BK333 := n3_
                                          have BK339 := n4_
                                          have BK340 := n5_
                                          have HB := n6_
                                          clear n0_ n1_ n2_ n3_ n4_ n5_ n6_
                                          refine done_ (done_of HT_.out (by kernel_rfl)) ?_
                                          have hnb78 := NB340_323.out
                                          have hnc78 := NB323_340.out
                                          have hnb79 := NB340_333.out
                                          have hnc79 := NB333_340.out
                                          have hnb80 := NB340_339.out
                                          have hnc80 := NB339_340.out
                                          have hcz81_0 : wcp2.cell? ⟨gb340, 0, none⟩ = some (.int .i64 ((rd_T34 t328 x6_2).f0)) := (blk_cell BK340.out 0).trans rfl
                                          have hcz81_1 : wcp2.cell? ⟨gb340, 1, none⟩ = some (.int .i64 ((rd_T34 t328 x6_2).f1)) := (blk_cell BK340.out 1).trans rfl
                                          have hcz81_2 : wcp2.cell? ⟨gb340, 2, none⟩ = some (.int .i64 ((rd_T34 t328 x6_2).f2)) := (blk_cell BK340.out 2).trans rfl
                                          have hcz81_3 : wcp2.cell? ⟨gb340, 3, none⟩ = some (.int .i64 ((rd_T34 t328 x6_2).f3)) := (blk_cell BK340.out 3).trans rfl
                                          have hcz81_4 : wcp2.cell? ⟨gb340, 4, none⟩ = some (.int .i64 ((rd_T34 t328 x6_2).f4)) := (blk_cell BK340.out 4).trans rfl
                                          have hcz81_5 : wcp2.cell? ⟨gb340, 5, none⟩ = some (.string ((rd_T34 t328 x6_2).f5)) := (blk_cell BK340.out 5).trans rfl
                                          have hcz81_6 : wcp2.cell? ⟨gb340, 6, none⟩ = some (.string ((rd_T34 t328 x6_2).f6)) := (blk_cell BK340.out 6).trans rfl
                                          have hcz81_7 : wcp2.cell? ⟨gb340, 7, none⟩ = some (.string ((rd_T34 t328 x6_2).f7)) := (blk_cell BK340.out 7).trans rfl
                                          have hcz81_8 : wcp2.cell? ⟨gb340, 8, none⟩ = some (.string ((rd_T34 t328 x6_2).f8)) := (blk_cell BK340.out 8).trans rfl
                                          have hcz81_9 : wcp2.cell? ⟨gb340, 9, none⟩ = some (.int .i64 ((rd_T34 t328 x6_2).f9)) := (blk_cell BK340.out 9).trans rfl
                                          have hfz81_0 := blk_frozen BK340.out 0
                                          have hfz81_1 := blk_frozen BK340.out 1
                                          have hfz81_2 := blk_frozen BK340.out 2
                                          have hfz81_3 := blk_frozen BK340.out 3
                                          have hfz81_4 := blk_frozen BK340.out 4
                                          have hfz81_5 := blk_frozen BK340.out 5
                                          have hfz81_6 := blk_frozen BK340.out 6
                                          have hfz81_7 := blk_frozen BK340.out 7
                                          have hfz81_8 := blk_frozen BK340.out 8
                                          have hfz81_9 := blk_frozen BK340.out 9
                                          have hnb82 := NB339_323.out
                                          have hnc82 := NB323_339.out
                                          have hnb83 := NB339_333.out
                                          have hnc83 := NB333_339.out
                                          have hcz84_0 : wcp2.cell? ⟨gb339, 0, none⟩ = some (.int .i64 ((rd_T34 l0_1 x6_2).f0)) := (blk_cell BK339.out 0).trans rfl
                                          have hcz84_1 : wcp2.cell? ⟨gb339, 1, none⟩ = some (.int .i64 ((rd_T34 l0_1 x6_2).f1)) := (blk_cell BK339.out 1).trans rfl
                                          have hcz84_2 : wcp2.cell? ⟨gb339, 2, none⟩ = some (.int .i64 ((rd_T34 l0_1 x6_2).f2)) := (blk_cell BK339.out 2).trans rfl
                                          have hcz84_3 : wcp2.cell? ⟨gb339, 3, none⟩ = some (.int .i64 ((rd_T34 l0_1 x6_2).f3)) := (blk_cell BK339.out 3).trans rfl
                                          have hcz84_4 : wcp2.cell? ⟨gb339, 4, none⟩ = some (.int .i64 ((rd_T34 l0_1 x6_2).f4)) := (blk_cell BK339.out 4).trans rfl
                                          have hcz84_5 : wcp2.cell? ⟨gb339, 5, none⟩ = some (.string ((rd_T34 l0_1 x6_2).f5)) := (blk_cell BK339.out 5).trans rfl
                                          have hcz84_6 : wcp2.cell? ⟨gb339, 6, none⟩ = some (.string ((rd_T34 l0_1 x6_2).f6)) := (blk_cell BK339.out 6).trans rfl
                                          have hcz84_7 : wcp2.cell? ⟨gb339, 7, none⟩ = some (.string ((rd_T34 l0_1 x6_2).f7)) := (blk_cell BK339.out 7).trans rfl
                                          have hcz84_8 : wcp2.cell? ⟨gb339, 8, none⟩ = some (.string ((rd_T34 l0_1 x6_2).f8)) := (blk_cell BK339.out 8).trans rfl
                                          have hcz84_9 : wcp2.cell? ⟨gb339, 9, none⟩ = some (.int .i64 ((rd_T34 l0_1 x6_2).f9)) := (blk_cell BK339.out 9).trans rfl
                                          have hfz84_0 := blk_frozen BK339.out 0
                                          have hfz84_1 := blk_frozen BK339.out 1
                                          have hfz84_2 := blk_frozen BK339.out 2
                                          have hfz84_3 := blk_frozen BK339.out 3
                                          have hfz84_4 := blk_frozen BK339.out 4
                                          have hfz84_5 := blk_frozen BK339.out 5
                                          have hfz84_6 := blk_frozen BK339.out 6
                                          have hfz84_7 := blk_frozen BK339.out 7
                                          have hfz84_8 := blk_frozen BK339.out 8
                                          have hfz84_9 := blk_frozen BK339.out 9
                                          try go_wp2
                                          go_roundg k2
                                          case measure => have := HJ6.out; have := HK2.out; omega
                                          case rel => exact ⟨(wrap64 (x6_2 + 1)), (by first | rfl | (simp; done) | (simp [*]; done)), H', ⟨by have := HJ6.out; have := HK2.out; omega⟩, ⟨HO_334000.out⟩, ⟨hmono_ HO_334001.out⟩, ⟨BK323.out⟩, ⟨BK333.out⟩, ⟨HB.out⟩⟩
                                      · rw [if_neg c50] at H
                                        have c50b0 : (((rd_T34 l0_1 x6_2).f9) == ((rd_T34 t328 x6_2).f9)) = false := beq_eq_false_iff_ne.mpr c50
                                        have c50b1 : (((rd_T34 l0_1 x6_2).f9) != ((rd_T34 t328 x6_2).f9)) = true := bne_iff_ne.mpr c50
                                        exact absurd ((Option.some.inj H).trans HTRUE.out) (by decide)
                                    · rw [if_neg c49] at H
                                      have c49b0 : (((rd_T34 l0_1 x6_2).f3) == ((rd_T34 t328 x6_2).f3)) = false := beq_eq_false_iff_ne.mpr c49
                                      have c49b1 : (((rd_T34 l0_1 x6_2).f3) != ((rd_T34 t328 x6_2).f3)) = true := bne_iff_ne.mpr c49
                                      exact absurd ((Option.some.inj H).trans HTRUE.out) (by decide)
                                  · rw [if_neg c48] at H
                                    have c48b0 : (((rd_T34 l0_1 x6_2).f2) == ((rd_T34 t328 x6_2).f2)) = false := beq_eq_false_iff_ne.mpr c48
                                    have c48b1 : (((rd_T34 l0_1 x6_2).f2) != ((rd_T34 t328 x6_2).f2)) = true := bne_iff_ne.mpr c48
                                    exact absurd ((Option.some.inj H).trans HTRUE.out) (by decide)
                                · rw [if_neg c47] at H
                                  have c47b0 : (((rd_T34 l0_1 x6_2).f1) == ((rd_T34 t328 x6_2).f1)) = false := beq_eq_false_iff_ne.mpr c47
                                  have c47b1 : (((rd_T34 l0_1 x6_2).f1) != ((rd_T34 t328 x6_2).f1)) = true := bne_iff_ne.mpr c47
                                  exact absurd ((Option.some.inj H).trans HTRUE.out) (by decide)
                              · rw [if_neg c46] at H
                                have c46b0 : (((rd_T34 l0_1 x6_2).f0) == ((rd_T34 t328 x6_2).f0)) = false := beq_eq_false_iff_ne.mpr c46
                                have c46b1 : (((rd_T34 l0_1 x6_2).f0) != ((rd_T34 t328 x6_2).f0)) = true := bne_iff_ne.mpr c46
                                exact absurd ((Option.some.inj H).trans HTRUE.out) (by decide)
                            · rw [if_neg c45] at H
                              have c45b0 : ((((((rd_T34 t328 x6_2).f5) ++ ((rd_T34 t328 x6_2).f6)) ++ ((rd_T34 t328 x6_2).f7)) ++ ((rd_T34 t328 x6_2).f8)).toList == ([] : List UInt8)) = false := beq_eq_false_iff_ne.mpr c45
                              have c45b1 : ((((((rd_T34 t328 x6_2).f5) ++ ((rd_T34 t328 x6_2).f6)) ++ ((rd_T34 t328 x6_2).f7)) ++ ((rd_T34 t328 x6_2).f8)).toList != ([] : List UInt8)) = true := bne_iff_ne.mpr c45
                              have c45b9 : ((((((rd_T34 t328 x6_2).f5) ++ ((rd_T34 t328 x6_2).f6)) ++ ((rd_T34 t328 x6_2).f7)) ++ ((rd_T34 t328 x6_2).f8)).toList.isEmpty) = false := by simpa using c45
                              try rw [c45b9]
                              exact absurd ((Option.some.inj H).trans HTRUE.out) (by decide)
                          · rw [if_neg c44] at H
                            exact absurd H (by simp)
                        · rw [if_neg c43] at H
                          exact absurd H (by simp)
                      · rw [if_neg c42] at H
                        exact absurd H (by simp)
                    · rw [if_neg c41] at H
                      exact absurd H (by simp)
                  · rw [if_neg c40] at H
                    exact absurd H (by simp)
                · rw [if_neg c39] at H
                  have c39b0 : decide (x6_2 < (t328.length : Int)) = false := decide_eq_false c39
                  clear c39
                  obtain rfl := Option.some.inj H
                  have hnb85 := NB333_323.out
                  have hnc85 := NB323_333.out
                  have hcz86_0 : wr.cell? ⟨gb333, 0, none⟩ = some (.slice Ao13 t325.length co13) := (blk_cell BK333.out 0).trans rfl
                  have hcz86_1 : wr.cell? ⟨gb333, 1, none⟩ = some (.slice Ao16 t328.length co16) := (blk_cell BK333.out 1).trans rfl
                  have hfz86_0 := blk_frozen BK333.out 0
                  have hfz86_1 := blk_frozen BK333.out 1
                  go_wp2
                  go_ret
                  exact ⟨by first | rfl | (simp [errW_none, errW_some] <;> rfl) | (simp [*, errW_none, errW_some] <;> rfl), by repeat (first | (with_reducible first | exact HB.out | apply below_alloc | apply pw_below_drewN | apply below_drew1 | refine below_set ?_ GE323.out | refine below_set ?_ GE333.out) | exact HB.out)⟩
    · rw [if_neg c6] at H
      have c6b0 : (t334 == 0) = false := beq_eq_false_iff_ne.mpr c6
      have c6b1 : (t334 != 0) = true := bne_iff_ne.mpr c6
      by_cases c87 : (wrap64 ((t328.length : Int) + (t325.length : Int))) = 0
      · rw [if_pos c87] at H
        have c87b0 : ((wrap64 ((t328.length : Int) + (t325.length : Int))) == 0) = true := beq_iff_eq.mpr c87
        have c87b1 : ((wrap64 ((t328.length : Int) + (t325.length : Int))) != 0) = false := bne_eq_false_iff_eq.mpr c87
        clear c87
        obtain rfl := Option.some.inj H
        go_enter Tryd.func3, Tryd.ntmps3
        go_wp2_with (first | ((with_reducible refine gate_dst (N := 1) rfl ?_); (try (refine gate_guard (by rfl) ?_; dsimp only)); refine box_event ?hg (N := 1) ?hd (cs := #[.slice A0_0 l0_0.length c0_0, .slice A0_1 l0_1.length c0_1]) (t := 25) ?hr ?_; (case hd => rfl); (case hg => rfl); (case hr => first | (go_simp; done) | (go_simp; rfl)); intro gb323 hg w88 hbox hb; have n0_ := Aside0.mk (below_step (by repeat (first | (with_reducible first | exact HB.out | apply below_alloc | apply pw_below_drewN | apply below_drew1) | exact HB.out)) hb); have n1_ := Aside0.mk (hbox); have n2_ := Aside0.mk ((by rw [hg]; exact (below_size (by repeat (first | (with_reducible first | exact HB.out | apply below_alloc | apply pw_below_drewN | apply below_drew1) | exact HB.out))) : w.heap.size ≤ gb323)); have n3_ := Aside0.mk ((by rw [hg]; exact (below_size (by repeat (first | (with_reducible first | exact HB.out | apply below_alloc | apply pw_below_drewN | apply below_drew1) | exact HB.out))) : w.heap.size ≤ gb323)); clear HB; have HB := n0_; have BK323 := n1_; have GW323 := n2_; have GE323 := n3_; clear n0_ n1_ n2_ n3_; clear hb hbox hg) | ((with_reducible refine gate_callee (f := 7) rfl ?_); refine goesL_ (some 9) rfl rfl Tryd.func7 (by kernel_rfl) rfl #[] rfl (by (try simp only [List.map_toArray, List.map_cons, List.map_nil]); first | done | rfl | (simp only [List.length_drop, List.length_take]; rfl)) ?_; (with_reducible refine (trammellaw6_awake.callsT k true _ rfl A2.out (HG.out.below HG.out.lt (by repeat (first | (with_reducible first | exact HB.out | apply below_alloc | apply pw_below_drewN | apply below_drew1 | refine below_set ?_ (Aside0.out (by assumption))) | exact HB.out)))).mono ?_); rintro e w89 ⟨rfl, hb⟩; refine ⟨_, rfl, ?_⟩; have n0_ := Aside0.mk (blk_below (g := gb323) (o := .cells #[.slice A0_0 l0_0.length c0_0, .slice A0_1 l0_1.length c0_1] 25 (0, 0)) (by (with_reducible repeat (first | refine blk_drewN ?_ _ | refine blk_drew ?_ | refine blk_alloc ?_ _)); exact BK323.out) hb); have n1_ := Aside0.mk (below_step (by repeat (first | (with_reducible first | exact HB.out | apply below_alloc | apply pw_below_drewN | apply below_drew1 | refine below_set ?_ GE323.out) | exact HB.out)) hb); clear BK323; clear HB; have BK323 := n0_; have HB := n1_; clear n0_ n1_; (try clear hb); (try clear hb2); (try clear hk); (try clear hi); have hcz90_0 : w89.cell? ⟨gb323, 0, none⟩ = some (.slice A0_0 l0_0.length c0_0) := (blk_cell BK323.out 0).trans rfl; have hcz90_1 : w89.cell? ⟨gb323, 1, none⟩ = some (.slice A0_1 l0_1.length c0_1) := (blk_cell BK323.out 1).trans rfl; have hfz90_0 := blk_frozen BK323.out 0; have hfz90_1 := blk_frozen BK323.out 1) | ((with_reducible refine gate_callee (f := 8) rfl ?_); refine goesL_ (some 13) rfl rfl Tryd.func8 (by kernel_rfl) rfl #[.agg #[.slice A0_0 l0_0.length c0_0, .slice A0_1 l0_1.length c0_1]] rfl (by (try simp only [List.map_toArray, List.map_cons, List.map_nil]); first | done | rfl | (simp only [List.length_drop, List.length_take]; rfl)) ?_; (with_reducible refine (scope_Resolve.calls k _ _ l0_0 _ _ l0_1 t325 t328 t331 t332 _ ?side1 ?side2 ?side3 ?side4 A4.out (HG.out.below HG.out.lt (by repeat (first | (with_reducible first | exact HB.out | apply below_alloc | apply pw_below_drewN | apply below_drew1 | refine below_set ?_ (Aside0.out (by assumption))) | exact HB.out)))).mono ?_); (case side1 => repeat (first | exact (Kd.C_below HR0_0.out HB.out) | (with_reducible refine Kd.C_alloc ?_ _) | (with_reducible refine Kd.C_drewN ?_ _) | (with_reducible refine Kd.C_drew ?_))); (case side2 => exact HC0_0.out); (case side3 => repeat (first | exact (Kd.C_below HR0_1.out HB.out) | (with_reducible refine Kd.C_alloc ?_ _) | (with_reducible refine Kd.C_drewN ?_ _) | (with_reducible refine Kd.C_drew ?_))); (case side4 => exact HC0_1.out); rintro e w91 ⟨v326, v329, rfl, ho0, ho1, hb⟩; refine ⟨_, rfl, ?_⟩; have n0_ := Aside0.mk (Kd.R_lower ho0 (below_size (by repeat (first | (with_reducible first | exact HB.out | apply below_alloc | apply pw_below_drewN | apply below_drew1 | refine below_set ?_ GE323.out) | exact HB.out)))); have n1_ := Aside0.mk (Kd.R_lower ho1 (below_size (by repeat (first | (with_reducible first | exact HB.out | apply below_alloc | apply pw_below_drewN | apply below_drew1 | refine below_set ?_ GE323.out) | exact HB.out)))); have n2_ := Aside0.mk (blk_below (g := gb323) (o := .cells #[.slice A0_0 l0_0.length c0_0, .slice A0_1 l0_1.length c0_1] 25 (0, 0)) (by (with_reducible repeat (first | refine blk_drewN ?_ _ | refine blk_drew ?_ | refine blk_alloc ?_ _)); exact BK323.out) hb); have n3_ := Aside0.mk (below_step (by repeat (first | (with_reducible first | exact HB.out | apply below_alloc | apply pw_below_drewN | apply below_drew1 | refine below_set ?_ GE323.out) | exact HB.out)) hb); clear BK323; clear HB; have HO327 := n0_; have HO330 := n1_; have BK323 := n2_; have HB := n3_; clear n0_ n1_ n2_ n3_; (try clear hb); (try clear hb2); (try clear hk); (try clear hi); (try clear ho0); (try clear ho1)) | ((with_reducible refine gate_dst (N := 3) rfl ?_); (try (refine gate_guard (by rfl) ?_; dsimp only)); refine box_event ?hg (N := 3) ?hd (cs := #[.slice none 0 0, .slice none 0 0]) (t := 25) ?hr ?_; (case hd => rfl); (case hg => rfl); (case hr => first | (go_simp; done) | (go_simp; rfl)); intro gb333 hg w92 hbox hb; have n0_ := Aside0.mk (Kd.R_below (by (with_reducible repeat (first | apply Kd.R_alloc | apply Kd.R_drewN | apply Kd.R_drew)); exact HO327.out) hb); have n1_ := Aside0.mk (Kd.R_below (by (with_reducible repeat (first | apply Kd.R_alloc | apply Kd.R_drewN | apply Kd.R_drew)); exact HO330.out) hb); have n2_ := Aside0.mk (blk_below (g := gb323) (o := .cells #[.slice A0_0 l0_0.length c0_0, .slice A0_1 l0_1.length c0_1] 25 (0, 0)) (by (with_reducible repeat (first | refine blk_drewN ?_ _ | refine blk_drew ?_ | refine blk_alloc ?_ _)); exact BK323.out) hb); have n3_ := Aside0.mk (below_step (by repeat (first | (with_reducible first | exact HB.out | apply below_alloc | apply pw_below_drewN | apply below_drew1 | refine below_set ?_ GE323.out) | exact HB.out)) hb); have n4_ := Aside0.mk (hbox); have n5_ := Aside0.mk ((by rw [hg]; exact (below_size (by repeat (first | (with_reducible first | exact HB.out | apply below_alloc | apply pw_below_drewN | apply below_drew1 | refine below_set ?_ GE323.out) | exact HB.out))) : w.heap.size ≤ gb333)); have n6_ := Aside0.mk ((by rw [hg]; exact (below_size (by repeat (first | (with_reducible first | exact HB.out | apply below_alloc | apply pw_below_drewN | apply below_drew1 | refine below_set ?_ GE323.out) | exact HB.out))) : w.heap.size ≤ gb333)); have n7_ := Aside0.mk ((by rw [hg]; exact Nat.ne_of_lt (blk_lt (g := gb323) (o := .cells #[.slice A0_0 l0_0.length c0_0, .slice A0_1 l0_1.length c0_1] 25 (0, 0)) (by (with_reducible repeat (first | refine blk_drewN ?_ _ | refine blk_drew ?_ | refine blk_alloc ?_ _)); exact BK323.out)) : gb323 ≠ gb333)); have n8_ := Aside0.mk ((by rw [hg]; exact Nat.ne_of_gt (blk_lt (g := gb323) (o := .cells #[.slice A0_0 l0_0.length c0_0, .slice A0_1 l0_1.length c0_1] 25 (0, 0)) (by (with_reducible repeat (first | refine blk_drewN ?_ _ | refine blk_drew ?_ | refine blk_alloc ?_ _)); exact BK323.out)) : gb333 ≠ gb323)); clear HO327; clear HO330; clear BK323; clear HB; have HO327 := n0_; have HO330 := n1_; have BK323 := n2_; have HB := n3_; have BK333 := n4_; have GW333 := n5_; have GE333 := n6_; have NB323_333 := n7_; have NB333_323 := n8_; clear n0_ n1_ n2_ n3_ n4_ n5_ n6_ n7_ n8_; clear hb hbox hg; obtain ⟨Ao93, co93, eo93⟩ := Kd.R_slice HO327.out; subst eo93; have hnb94 := NB333_323.out; have hnc94 := NB323_333.out; have hcz95_0 : w92.cell? ⟨gb333, 0, none⟩ = some (.slice none 0 0) := (blk_cell BK333.out 0).trans rfl; have hcz95_1 : w92.cell? ⟨gb333, 1, none⟩ = some (.slice none 0 0) := (blk_cell BK333.out 1).trans rfl; have hfz95_0 := blk_frozen BK333.out 0; have hfz95_1 := blk_frozen BK333.out 1; obtain ⟨Ao96, co96, eo96⟩ := Kd.R_slice HO330.out; subst eo96) | ((with_reducible refine gate_callee (f := 9) rfl ?_); refine goesL_ (some 18) rfl rfl Tryd.func9 (by kernel_rfl) rfl #[.int .i64 t332] rfl (by (try simp only [List.map_toArray, List.map_cons, List.map_nil]); first | done | rfl | (simp only [List.length_drop, List.length_take]; rfl)) ?_; (with_reducible refine (trammellaw0_Num.calls t332 t334 _ A5.out).mono ?_); rintro e w' ⟨rfl, ⟨nd, rfl⟩⟩; refine ⟨_, rfl, ?_⟩))
        go_ret
        exact ⟨by first | rfl | (simp [errW_none, errW_some] <;> rfl) | (simp [*, errW_none, errW_some] <;> rfl), by repeat (first | (with_reducible first | exact HB.out | apply below_alloc | apply pw_below_drewN | apply below_drew1 | refine below_set ?_ GE323.out | refine below_set ?_ GE333.out) | exact HB.out)⟩
      · rw [if_neg c87] at H
        have c87b0 : ((wrap64 ((t328.length : Int) + (t325.length : Int))) == 0) = false := beq_eq_false_iff_ne.mpr c87
        have c87b1 : ((wrap64 ((t328.length : Int) + (t325.length : Int))) != 0) = true := bne_iff_ne.mpr c87
        exact absurd ((Option.some.inj H).trans HTRUE.out) (by decide)
  · replace c3 := Bool.eq_false_iff.mpr c3
    subst c3
    have H1 : (some false) = some r := by rw [if_neg (show ¬ (false = true) by decide)] at H; exact H
    clear H
    have H := H1
    clear H1
    exact absurd ((Option.some.inj H).trans HTRUE.out) (by decide)
end Go.Proofs.YtfcjpkkglffnmaaDoor.H
