/- Several texts in one: contracts of functions of the program, and what they lean on. In part written by a program of this session over the kit's print, in part by hand. -/
import Derived.Test.YtnogfhhfklkbiaaDoorZ0
import Derived.Test.YtnogfhhfklkbiaaDoorZ2
import Derived.Test.YtnogfhhfklkbiaaDoorZ1
import Derived.Lib.SliceRun
namespace Go.Proofs.YtnogfhhfklkbiaaDoor.H
open Go.RowKit Go.Proofs.YtnogfhhfklkbiaaDoorW.PrintWords Go.Proofs.YtnogfhhfklkbiaaDoorW.PrintLast Go.Proofs.YtnogfhhfklkbiaaDoorW.PrintMore
attribute [local go_sem] max2_int min2_int max_two min_two max_three min_three max_four min_four   -- for this text's walks alone
set_option linter.unusedVariables false
set_option linter.unusedSimpArgs false

/-! ### tree_May: function 20 -/
def tree_May.f (k : Nat) (l0_0 : List (S48)) (l0_1 : List (S45)) : Option (Bool) := (tree_OpsMay.f k l0_0).bind fun t320 => (if t320 = true then ((tree_Shaped.f k l0_1 true).bind fun t321 => (some t321)) else (some false))
theorem tree_May.mono : ∀ a0 a1 k, LeO (tree_May.f k a0 a1) (tree_May.f (k + 1) a0 a1) := by
  intro a0 a1 k
  unfold tree_May.f
  repeat' first
      | (with_reducible exact tree_OpsMay.mono _ _)
      | (with_reducible exact tree_Shaped.mono _ _ _)
      | (with_reducible exact LeO.refl _)
      | (with_reducible exact LeO.none _)
      | (with_reducible refine LeO.ite ?_ ?_)
      | (with_reducible refine LeO.bind ?_ (fun _ => ?_))
      | exact tree_OpsMay.mono _ _
      | exact tree_Shaped.mono _ _ _
      | exact LeO.none _
      | refine LeO.ite ?_ ?_
      | refine LeO.bind ?_ (fun _ => ?_)
set_option maxHeartbeats 8000000 in
set_option maxRecDepth 100000 in
theorem tree_May.calls (k : Nat) (A0_0 : Option Addr) (c0_0 : Nat) (l0_0 : List (S48)) (A0_1 : Option Addr) (c0_1 : Nat) (l0_1 : List (S45)) (r : Bool) (w : World) (hr0_0 : Kd.C k48 w A0_0 l0_0.length l0_0) (hc0_0 : l0_0.length ≤ c0_0) (hr0_1 : Kd.C k45 w A0_1 l0_1.length l0_1) (hc0_1 : l0_1.length ≤ c0_1) (h : tree_May.f k l0_0 l0_1 = some r) :
    Calls Tryd.prog 20 #[.agg #[.slice A0_0 l0_0.length c0_0, .slice A0_1 l0_1.length c0_1]] w fun e w' => e = .returned (.bool r) ∧ Below w.heap.size w w' := by
  have hu25 := Tryd.underlying25
  have HR0_0 := Aside0.mk hr0_0
  have HC0_0 := Aside0.mk hc0_0
  clear hr0_0 hc0_0
  have HR0_1 := Aside0.mk hr0_1
  have HC0_1 := Aside0.mk hc0_1
  clear hr0_1 hc0_1
  have HB := Aside0.mk (Below.refl w.heap.size w)
  have H : ((tree_OpsMay.f k l0_0).bind fun t320 => (if t320 = true then ((tree_Shaped.f k l0_1 true).bind fun t321 => (some t321)) else (some false))) = some r := h
  clear h
  replace H := Option.bind_eq_some_iff.mp H
  obtain ⟨t320, A20, H⟩ := H
  replace H : (if t320 = true then ((tree_Shaped.f k l0_1 true).bind fun t321 => (some t321)) else (some false)) = some r := H
  have A2 := Aside0.mk A20
  clear A20
  by_cases c3 : t320 = true
  · subst c3
    have H1 : ((tree_Shaped.f k l0_1 true).bind fun t321 => (some t321)) = some r := by rw [if_pos rfl] at H; exact H
    clear H
    have H := H1
    clear H1
    replace H := Option.bind_eq_some_iff.mp H
    obtain ⟨t321, A40, H⟩ := H
    replace H : (some t321) = some r := H
    have A4 := Aside0.mk A40
    clear A40
    obtain rfl := Option.some.inj H
    go_enter Tryd.func20, Tryd.ntmps20
    go_wp2_with (first | ((with_reducible refine gate_dst (N := 1) rfl ?_); refine box_event ?hg (N := 1) ?hd (cs := #[.slice A0_0 l0_0.length c0_0, .slice A0_1 l0_1.length c0_1]) (t := 25) ?hr ?_; (case hd => rfl); (case hg => rfl); (case hr => first | (go_simp; done) | (go_simp; rfl)); intro gb319 hg w5 hbox hb; have n0_ := Aside0.mk (below_step (by repeat (first | (with_reducible first | exact HB.out | apply below_alloc | apply pw_below_drewN | apply below_drew1) | exact HB.out)) hb); have n1_ := Aside0.mk (hbox); have n2_ := Aside0.mk ((by rw [hg]; exact (below_size (by repeat (first | (with_reducible first | exact HB.out | apply below_alloc | apply pw_below_drewN | apply below_drew1) | exact HB.out))) : w.heap.size ≤ gb319)); have n3_ := Aside0.mk ((by rw [hg]; exact (below_size (by repeat (first | (with_reducible first | exact HB.out | apply below_alloc | apply pw_below_drewN | apply below_drew1) | exact HB.out))) : w.heap.size ≤ gb319)); clear HB; have HB := n0_; have BK319 := n1_; have GW319 := n2_; have GE319 := n3_; clear n0_ n1_ n2_ n3_; clear hb hbox hg; have hcz6_0 : w5.cell? ⟨gb319, 0, none⟩ = some (.slice A0_0 l0_0.length c0_0) := (blk_cell BK319.out 0).trans rfl; have hcz6_1 : w5.cell? ⟨gb319, 1, none⟩ = some (.slice A0_1 l0_1.length c0_1) := (blk_cell BK319.out 1).trans rfl; have hfz6_0 := blk_frozen BK319.out 0; have hfz6_1 := blk_frozen BK319.out 1) | ((with_reducible refine gate_callee (f := 46) rfl ?_); refine goesL_ (some 5) rfl rfl Tryd.func46 (by kernel_rfl) rfl #[.slice A0_0 l0_0.length c0_0] rfl (by (try simp only [List.map_toArray, List.map_cons, List.map_nil]); first | done | rfl | (simp only [List.length_drop, List.length_take]; rfl)) ?_; (with_reducible refine (tree_OpsMay.calls k _ _ l0_0 true _ ?side1 ?side2 A2.out).mono ?_); (case side1 => repeat (first | exact (Kd.C_below HR0_0.out HB.out) | (with_reducible refine Kd.C_alloc ?_ _) | (with_reducible refine Kd.C_drewN ?_ _) | (with_reducible refine Kd.C_drew ?_))); (case side2 => exact HC0_0.out); rintro e w7 ⟨rfl, hb⟩; refine ⟨_, rfl, ?_⟩; have n0_ := Aside0.mk (blk_below (g := gb319) (o := .cells #[.slice A0_0 l0_0.length c0_0, .slice A0_1 l0_1.length c0_1] 25 (0, 0)) (by (with_reducible repeat (first | refine blk_drewN ?_ _ | refine blk_drew ?_ | refine blk_alloc ?_ _)); exact BK319.out) hb); have n1_ := Aside0.mk (below_step (by repeat (first | (with_reducible first | exact HB.out | apply below_alloc | apply pw_below_drewN | apply below_drew1 | refine below_set ?_ GE319.out) | exact HB.out)) hb); clear BK319; clear HB; have BK319 := n0_; have HB := n1_; clear n0_ n1_; (try clear hb); (try clear hb2); (try clear hk); (try clear hi); have hcz8_0 : w7.cell? ⟨gb319, 0, none⟩ = some (.slice A0_0 l0_0.length c0_0) := (blk_cell BK319.out 0).trans rfl; have hcz8_1 : w7.cell? ⟨gb319, 1, none⟩ = some (.slice A0_1 l0_1.length c0_1) := (blk_cell BK319.out 1).trans rfl; have hfz8_0 := blk_frozen BK319.out 0; have hfz8_1 := blk_frozen BK319.out 1) | (go_at_call 47; (with_reducible refine (tree_Shaped.calls k _ _ l0_1 true t321 _ ?side1 ?side2 A4.out).mono ?_); (case side1 => repeat (first | exact (Kd.C_below HR0_1.out HB.out) | (with_reducible refine Kd.C_alloc ?_ _) | (with_reducible refine Kd.C_drewN ?_ _) | (with_reducible refine Kd.C_drew ?_))); (case side2 => exact HC0_1.out); rintro e w9 ⟨rfl, hb⟩; have n0_ := Aside0.mk (blk_below (g := gb319) (o := .cells #[.slice A0_0 l0_0.length c0_0, .slice A0_1 l0_1.length c0_1] 25 (0, 0)) (by (with_reducible repeat (first | refine blk_drewN ?_ _ | refine blk_drew ?_ | refine blk_alloc ?_ _)); exact BK319.out) hb); have n1_ := Aside0.mk (below_step (by repeat (first | (with_reducible first | exact HB.out | apply below_alloc | apply pw_below_drewN | apply below_drew1 | refine below_set ?_ GE319.out) | exact HB.out)) hb); clear BK319; clear HB; have BK319 := n0_; have HB := n1_; clear n0_ n1_; (try clear hb); (try clear hb2); (try clear hk); (try clear hi)))
    go_ret
    exact ⟨by first | rfl | (simp [errW_none, errW_some] <;> rfl) | (simp [*, errW_none, errW_some] <;> rfl), by repeat (first | (with_reducible first | exact HB.out | apply below_alloc | apply pw_below_drewN | apply below_drew1 | refine below_set ?_ GE319.out) | exact HB.out)⟩
  · replace c3 := Bool.eq_false_iff.mpr c3
    subst c3
    have H1 : (some false) = some r := by rw [if_neg (show ¬ (false = true) by decide)] at H; exact H
    clear H
    have H := H1
    clear H1
    obtain rfl := Option.some.inj H
    go_enter Tryd.func20, Tryd.ntmps20
    go_wp2_with (first | ((with_reducible refine gate_dst (N := 1) rfl ?_); refine box_event ?hg (N := 1) ?hd (cs := #[.slice A0_0 l0_0.length c0_0, .slice A0_1 l0_1.length c0_1]) (t := 25) ?hr ?_; (case hd => rfl); (case hg => rfl); (case hr => first | (go_simp; done) | (go_simp; rfl)); intro gb319 hg w10 hbox hb; have n0_ := Aside0.mk (below_step (by repeat (first | (with_reducible first | exact HB.out | apply below_alloc | apply pw_below_drewN | apply below_drew1) | exact HB.out)) hb); have n1_ := Aside0.mk (hbox); have n2_ := Aside0.mk ((by rw [hg]; exact (below_size (by repeat (first | (with_reducible first | exact HB.out | apply below_alloc | apply pw_below_drewN | apply below_drew1) | exact HB.out))) : w.heap.size ≤ gb319)); have n3_ := Aside0.mk ((by rw [hg]; exact (below_size (by repeat (first | (with_reducible first | exact HB.out | apply below_alloc | apply pw_below_drewN | apply below_drew1) | exact HB.out))) : w.heap.size ≤ gb319)); clear HB; have HB := n0_; have BK319 := n1_; have GW319 := n2_; have GE319 := n3_; clear n0_ n1_ n2_ n3_; clear hb hbox hg; have hcz11_0 : w10.cell? ⟨gb319, 0, none⟩ = some (.slice A0_0 l0_0.length c0_0) := (blk_cell BK319.out 0).trans rfl; have hcz11_1 : w10.cell? ⟨gb319, 1, none⟩ = some (.slice A0_1 l0_1.length c0_1) := (blk_cell BK319.out 1).trans rfl; have hfz11_0 := blk_frozen BK319.out 0; have hfz11_1 := blk_frozen BK319.out 1) | ((with_reducible refine gate_callee (f := 46) rfl ?_); refine goesL_ (some 5) rfl rfl Tryd.func46 (by kernel_rfl) rfl #[.slice A0_0 l0_0.length c0_0] rfl (by (try simp only [List.map_toArray, List.map_cons, List.map_nil]); first | done | rfl | (simp only [List.length_drop, List.length_take]; rfl)) ?_; (with_reducible refine (tree_OpsMay.calls k _ _ l0_0 false _ ?side1 ?side2 A2.out).mono ?_); (case side1 => repeat (first | exact (Kd.C_below HR0_0.out HB.out) | (with_reducible refine Kd.C_alloc ?_ _) | (with_reducible refine Kd.C_drewN ?_ _) | (with_reducible refine Kd.C_drew ?_))); (case side2 => exact HC0_0.out); rintro e w12 ⟨rfl, hb⟩; refine ⟨_, rfl, ?_⟩; have n0_ := Aside0.mk (blk_below (g := gb319) (o := .cells #[.slice A0_0 l0_0.length c0_0, .slice A0_1 l0_1.length c0_1] 25 (0, 0)) (by (with_reducible repeat (first | refine blk_drewN ?_ _ | refine blk_drew ?_ | refine blk_alloc ?_ _)); exact BK319.out) hb); have n1_ := Aside0.mk (below_step (by repeat (first | (with_reducible first | exact HB.out | apply below_alloc | apply pw_below_drewN | apply below_drew1 | refine below_set ?_ GE319.out) | exact HB.out)) hb); clear BK319; clear HB; have BK319 := n0_; have HB := n1_; clear n0_ n1_; (try clear hb); (try clear hb2); (try clear hk); (try clear hi)))
    go_ret
    exact ⟨by first | rfl | (simp [errW_none, errW_some] <;> rfl) | (simp [*, errW_none, errW_some] <;> rfl), by repeat (first | (with_reducible first | exact HB.out | apply below_alloc | apply pw_below_drewN | apply below_drew1 | refine below_set ?_ GE319.out) | exact HB.out)⟩

end Go.Proofs.YtnogfhhfklkbiaaDoor.H

namespace Go.Proofs.YtnogfhhfklkbiaaDoor.H
open Go.RowKit Go.Proofs.YtnogfhhfklkbiaaDoorW.PrintWords Go.Proofs.YtnogfhhfklkbiaaDoorW.PrintLast Go.Proofs.YtnogfhhfklkbiaaDoorW.PrintMore
attribute [local go_sem] max2_int min2_int max_two min_two max_three min_three max_four min_four   -- for this text's walks alone
set_option linter.unusedVariables false
set_option linter.unusedSimpArgs false

/-! ### tree_there: function 38 -/
def tree_there.f (k : Nat) (l0 : List (S45)) (a1 : Int) : Option (Bool) := (tree_Shaped.f k l0 true).bind fun t315 => (if t315 = true then (if a1 ≥ 0 then (some (decide (a1 < (l0.length : Int)))) else (some false)) else ((tree_Shaped.f k l0 false).bind fun t316 => (if t316 = true then (if a1 ≥ 0 then (some (decide (a1 < (l0.length : Int)))) else (some false)) else (some false))))
theorem tree_there.mono : ∀ a0 a1 k, LeO (tree_there.f k a0 a1) (tree_there.f (k + 1) a0 a1) := by
  intro a0 a1 k
  unfold tree_there.f
  repeat' first
      | (with_reducible exact tree_Shaped.mono _ _ _)
      | (with_reducible exact LeO.refl _)
      | (with_reducible exact LeO.none _)
      | (with_reducible refine LeO.ite ?_ ?_)
      | (with_reducible refine LeO.bind ?_ (fun _ => ?_))
      | exact tree_Shaped.mono _ _ _
      | exact LeO.none _
      | refine LeO.ite ?_ ?_
      | refine LeO.bind ?_ (fun _ => ?_)
set_option maxHeartbeats 8000000 in
set_option maxRecDepth 100000 in
theorem tree_there.calls (k : Nat) (A0 : Option Addr) (c0 : Nat) (l0 : List (S45)) (a1 : Int) (r : Bool) (w : World) (hr0 : Kd.C k45 w A0 l0.length l0) (hc0 : l0.length ≤ c0) (h : tree_there.f k l0 a1 = some r) :
    Calls Tryd.prog 38 #[.slice A0 l0.length c0, .int .i64 a1] w fun e w' => e = .returned (.bool r) ∧ Below w.heap.size w w' := by
  have HR0 := Aside0.mk hr0
  have HC0 := Aside0.mk hc0
  clear hr0 hc0
  have HB := Aside0.mk (Below.refl w.heap.size w)
  have H : ((tree_Shaped.f k l0 true).bind fun t315 => (if t315 = true then (if a1 ≥ 0 then (some (decide (a1 < (l0.length : Int)))) else (some false)) else ((tree_Shaped.f k l0 false).bind fun t316 => (if t316 = true then (if a1 ≥ 0 then (some (decide (a1 < (l0.length : Int)))) else (some false)) else (some false))))) = some r := h
  clear h
  replace H := Option.bind_eq_some_iff.mp H
  obtain ⟨t315, A30, H⟩ := H
  replace H : (if t315 = true then (if a1 ≥ 0 then (some (decide (a1 < (l0.length : Int)))) else (some false)) else ((tree_Shaped.f k l0 false).bind fun t316 => (if t316 = true then (if a1 ≥ 0 then (some (decide (a1 < (l0.length : Int)))) else (some false)) else (some false)))) = some r := H
  have A3 := Aside0.mk A30
  clear A30
  by_cases c4 : t315 = true
  · subst c4
    have H1 : (if a1 ≥ 0 then (some (decide (a1 < (l0.length : Int)))) else (some false)) = some r := by rw [if_pos rfl] at H; exact H
    clear H
    have H := H1
    clear H1
    by_cases c5 : a1 ≥ 0
    · rw [if_pos c5] at H
      have c5b0 : decide (0 ≤ a1) = true := decide_eq_true c5
      clear c5
      obtain rfl := Option.some.inj H
      go_enter Tryd.func38, Tryd.ntmps38
      go_wp2_with (first | ((with_reducible refine gate_callee (f := 47) rfl ?_); refine goesL_ (some 6) rfl rfl Tryd.func47 (by kernel_rfl) rfl #[.slice A0 l0.length c0, .bool true] rfl (by (try simp only [List.map_toArray, List.map_cons, List.map_nil]); first | done | rfl | (simp only [List.length_drop, List.length_take]; rfl)) ?_; (with_reducible refine (tree_Shaped.calls k _ _ l0 true true _ ?side1 ?side2 A3.out).mono ?_); (case side1 => repeat (first | exact HR0.out | (with_reducible refine Kd.C_alloc ?_ _) | (with_reducible refine Kd.C_drewN ?_ _) | (with_reducible refine Kd.C_drew ?_))); (case side2 => exact HC0.out); rintro e w6 ⟨rfl, hb⟩; refine ⟨_, rfl, ?_⟩; have n0_ := Aside0.mk (below_step (by repeat (first | (with_reducible first | exact HB.out | apply below_alloc | apply pw_below_drewN | apply below_drew1) | exact HB.out)) hb); clear HB; have HB := n0_; clear n0_; (try clear hb); (try clear hb2); (try clear hk); (try clear hi)))
      go_ret
      exact ⟨by first | rfl | (simp [errW_none, errW_some] <;> rfl) | (simp [*, errW_none, errW_some] <;> rfl), by repeat (first | (with_reducible first | exact HB.out | apply below_alloc | apply pw_below_drewN | apply below_drew1) | exact HB.out)⟩
    · rw [if_neg c5] at H
      have c5b0 : decide (0 ≤ a1) = false := decide_eq_false c5
      clear c5
      obtain rfl := Option.some.inj H
      go_enter Tryd.func38, Tryd.ntmps38
      go_wp2_with (first | ((with_reducible refine gate_callee (f := 47) rfl ?_); refine goesL_ (some 6) rfl rfl Tryd.func47 (by kernel_rfl) rfl #[.slice A0 l0.length c0, .bool true] rfl (by (try simp only [List.map_toArray, List.map_cons, List.map_nil]); first | done | rfl | (simp only [List.length_drop, List.length_take]; rfl)) ?_; (with_reducible refine (tree_Shaped.calls k _ _ l0 true true _ ?side1 ?side2 A3.out).mono ?_); (case side1 => repeat (first | exact HR0.out | (with_reducible refine Kd.C_alloc ?_ _) | (with_reducible refine Kd.C_drewN ?_ _) | (with_reducible refine Kd.C_drew ?_))); (case side2 => exact HC0.out); rintro e w7 ⟨rfl, hb⟩; refine ⟨_, rfl, ?_⟩; have n0_ := Aside0.mk (below_step (by repeat (first | (with_reducible first | exact HB.out | apply below_alloc | apply pw_below_drewN | apply below_drew1) | exact HB.out)) hb); clear HB; have HB := n0_; clear n0_; (try clear hb); (try clear hb2); (try clear hk); (try clear hi)))
      go_ret
      exact ⟨by first | rfl | (simp [errW_none, errW_some] <;> rfl) | (simp [*, errW_none, errW_some] <;> rfl), by repeat (first | (with_reducible first | exact HB.out | apply below_alloc | apply pw_below_drewN | apply below_drew1) | exact HB.out)⟩
  · replace c4 := Bool.eq_false_iff.mpr c4
    subst c4
    have H1 : ((tree_Shaped.f k l0 false).bind fun t316 => (if t316 = true then (if a1 ≥ 0 then (some (decide (a1 < (l0.length : Int)))) else (some false)) else (some false))) = some r := by rw [if_neg (show ¬ (false = true) by decide)] at H; exact H
    clear H
    have H := H1
    clear H1
    replace H := Option.bind_eq_some_iff.mp H
    obtain ⟨t316, A80, H⟩ := H
    replace H : (if t316 = true then (if a1 ≥ 0 then (some (decide (a1 < (l0.length : Int)))) else (some false)) else (some false)) = some r := H
    have A8 := Aside0.mk A80
    clear A80
    by_cases c9 : t316 = true
    · subst c9
      have H1 : (if a1 ≥ 0 then (some (decide (a1 < (l0.length : Int)))) else (some false)) = some r := by rw [if_pos rfl] at H; exact H
      clear H
      have H := H1
      clear H1
      by_cases c10 : a1 ≥ 0
      · rw [if_pos c10] at H
        have c10b0 : decide (0 ≤ a1) = true := decide_eq_true c10
        clear c10
        obtain rfl := Option.some.inj H
        go_enter Tryd.func38, Tryd.ntmps38
        go_wp2_with (first | ((with_reducible refine gate_callee (f := 47) rfl ?_); refine goesL_ (some 6) rfl rfl Tryd.func47 (by kernel_rfl) rfl #[.slice A0 l0.length c0, .bool true] rfl (by (try simp only [List.map_toArray, List.map_cons, List.map_nil]); first | done | rfl | (simp only [List.length_drop, List.length_take]; rfl)) ?_; (with_reducible refine (tree_Shaped.calls k _ _ l0 true false _ ?side1 ?side2 A3.out).mono ?_); (case side1 => repeat (first | exact HR0.out | (with_reducible refine Kd.C_alloc ?_ _) | (with_reducible refine Kd.C_drewN ?_ _) | (with_reducible refine Kd.C_drew ?_))); (case side2 => exact HC0.out); rintro e w11 ⟨rfl, hb⟩; refine ⟨_, rfl, ?_⟩; have n0_ := Aside0.mk (below_step (by repeat (first | (with_reducible first | exact HB.out | apply below_alloc | apply pw_below_drewN | apply below_drew1) | exact HB.out)) hb); clear HB; have HB := n0_; clear n0_; (try clear hb); (try clear hb2); (try clear hk); (try clear hi)) | (go_at_call 47; (with_reducible refine (tree_Shaped.calls k _ _ l0 false true _ ?side1 ?side2 A8.out).mono ?_); (case side1 => repeat (first | exact (Kd.C_below HR0.out HB.out) | (with_reducible refine Kd.C_alloc ?_ _) | (with_reducible refine Kd.C_drewN ?_ _) | (with_reducible refine Kd.C_drew ?_))); (case side2 => exact HC0.out); rintro e w12 ⟨rfl, hb⟩; have n0_ := Aside0.mk (below_step (by repeat (first | (with_reducible first | exact HB.out | apply below_alloc | apply pw_below_drewN | apply below_drew1) | exact HB.out)) hb); clear HB; have HB := n0_; clear n0_; (try clear hb); (try clear hb2); (try clear hk); (try clear hi)))
        go_ret
        exact ⟨by first | rfl | (simp [errW_none, errW_some] <;> rfl) | (simp [*, errW_none, errW_some] <;> rfl), by repeat (first | (with_reducible first | exact HB.out | apply below_alloc | apply pw_below_drewN | apply below_drew1) | exact HB.out)⟩
      · rw [if_neg c10] at H
        have c10b0 : decide (0 ≤ a1) = false := decide_eq_false c10
        clear c10
        obtain rfl := Option.some.inj H
        go_enter Tryd.func38, Tryd.ntmps38
        go_wp2_with (first | ((with_reducible refine gate_callee (f := 47) rfl ?_); refine goesL_ (some 6) rfl rfl Tryd.func47 (by kernel_rfl) rfl #[.slice A0 l0.length c0, .bool true] rfl (by (try simp only [List.map_toArray, List.map_cons, List.map_nil]); first | done | rfl | (simp only [List.length_drop, List.length_take]; rfl)) ?_; (with_reducible refine (tree_Shaped.calls k _ _ l0 true false _ ?side1 ?side2 A3.out).mono ?_); (case side1 => repeat (first | exact HR0.out | (with_reducible refine Kd.C_alloc ?_ _) | (with_reducible refine Kd.C_drewN ?_ _) | (with_reducible refine Kd.C_drew ?_))); (case side2 => exact HC0.out); rintro e w13 ⟨rfl, hb⟩; refine ⟨_, rfl, ?_⟩; have n0_ := Aside0.mk (below_step (by repeat (first | (with_reducible first | exact HB.out | apply below_alloc | apply pw_below_drewN | apply below_drew1) | exact HB.out)) hb); clear HB; have HB := n0_; clear n0_; (try clear hb); (try clear hb2); (try clear hk); (try clear hi)) | (go_at_call 47; (with_reducible refine (tree_Shaped.calls k _ _ l0 false true _ ?side1 ?side2 A8.out).mono ?_); (case side1 => repeat (first | exact (Kd.C_below HR0.out HB.out) | (with_reducible refine Kd.C_alloc ?_ _) | (with_reducible refine Kd.C_drewN ?_ _) | (with_reducible refine Kd.C_drew ?_))); (case side2 => exact HC0.out); rintro e w14 ⟨rfl, hb⟩; have n0_ := Aside0.mk (below_step (by repeat (first | (with_reducible first | exact HB.out | apply below_alloc | apply pw_below_drewN | apply below_drew1) | exact HB.out)) hb); clear HB; have HB := n0_; clear n0_; (try clear hb); (try clear hb2); (try clear hk); (try clear hi)))
        go_ret
        exact ⟨by first | rfl | (simp [errW_none, errW_some] <;> rfl) | (simp [*, errW_none, errW_some] <;> rfl), by repeat (first | (with_reducible first | exact HB.out | apply below_alloc | apply pw_below_drewN | apply below_drew1) | exact HB.out)⟩
    · replace c9 := Bool.eq_false_iff.mpr c9
      subst c9
      have H1 : (some false) = some r := by rw [if_neg (show ¬ (false = true) by decide)] at H; exact H
      clear H
      have H := H1
      clear H1
      obtain rfl := Option.some.inj H
      go_enter Tryd.func38, Tryd.ntmps38
      go_wp2_with (first | ((with_reducible refine gate_callee (f := 47) rfl ?_); refine goesL_ (some 6) rfl rfl Tryd.func47 (by kernel_rfl) rfl #[.slice A0 l0.length c0, .bool true] rfl (by (try simp only [List.map_toArray, List.map_cons, List.map_nil]); first | done | rfl | (simp only [List.length_drop, List.length_take]; rfl)) ?_; (with_reducible refine (tree_Shaped.calls k _ _ l0 true false _ ?side1 ?side2 A3.out).mono ?_); (case side1 => repeat (first | exact HR0.out | (with_reducible refine Kd.C_alloc ?_ _) | (with_reducible refine Kd.C_drewN ?_ _) | (with_reducible refine Kd.C_drew ?_))); (case side2 => exact HC0.out); rintro e w15 ⟨rfl, hb⟩; refine ⟨_, rfl, ?_⟩; have n0_ := Aside0.mk (below_step (by repeat (first | (with_reducible first | exact HB.out | apply below_alloc | apply pw_below_drewN | apply below_drew1) | exact HB.out)) hb); clear HB; have HB := n0_; clear n0_; (try clear hb); (try clear hb2); (try clear hk); (try clear hi)) | (go_at_call 47; (with_reducible refine (tree_Shaped.calls k _ _ l0 false false _ ?side1 ?side2 A8.out).mono ?_); (case side1 => repeat (first | exact (Kd.C_below HR0.out HB.out) | (with_reducible refine Kd.C_alloc ?_ _) | (with_reducible refine Kd.C_drewN ?_ _) | (with_reducible refine Kd.C_drew ?_))); (case side2 => exact HC0.out); rintro e w16 ⟨rfl, hb⟩; have n0_ := Aside0.mk (below_step (by repeat (first | (with_reducible first | exact HB.out | apply below_alloc | apply pw_below_drewN | apply below_drew1) | exact HB.out)) hb); clear HB; have HB := n0_; clear n0_; (try clear hb); (try clear hb2); (try clear hk); (try clear hi)))
      go_ret
      exact ⟨by first | rfl | (simp [errW_none, errW_some] <;> rfl) | (simp [*, errW_none, errW_some] <;> rfl), by repeat (first | (with_reducible first | exact HB.out | apply below_alloc | apply pw_below_drewN | apply below_drew1) | exact HB.out)⟩

end Go.Proofs.YtnogfhhfklkbiaaDoor.H

namespace Go.Proofs.YtnogfhhfklkbiaaDoor.H
open Go.RowKit Go.Proofs.YtnogfhhfklkbiaaDoorW.PrintWords Go.Proofs.YtnogfhhfklkbiaaDoorW.PrintLast Go.Proofs.YtnogfhhfklkbiaaDoorW.PrintMore
attribute [local go_sem] max2_int min2_int max_two min_two max_three min_three max_four min_four   -- for this text's walks alone
set_option linter.unusedVariables false
set_option linter.unusedSimpArgs false

/-! ### tree_depth: function 39 -/
-- rounds -- making
/-- The deepest of the children. -/
def goD (g : Int → Option Int) : List Int → Int → Option Int
  | [], d => some d
  | c :: cs, d => (g c).bind fun r => goD g cs (mx d r)
def tree_depth.f : Nat → List S45 → Int → Option Int
  | 0, _, _ => none
  | k + 1, l, a => if 0 ≤ a then (if a < (l.length : Int) then (goD (tree_depth.f k l) (kidsOf (rd_T45 l a)) 0).bind fun d => some (wrap64 (d + 1)) else none) else none
theorem goD_mono {g g' : Int → Option Int} (h : ∀ x, LeO (g x) (g' x)) : ∀ cs a, LeO (goD g cs a) (goD g' cs a)
  | [], a => LeO.refl _
  | c :: cs, a => by
    unfold goD
    exact LeO.bind (h _) fun r => goD_mono h cs _
theorem tree_depth.mono : ∀ a0 a1 k, LeO (tree_depth.f k a0 a1) (tree_depth.f (k + 1) a0 a1) := by
  intro l a k
  induction k generalizing a with
  | zero => exact fun r h => by simp [tree_depth.f] at h
  | succ k ih =>
    rw [tree_depth.f, tree_depth.f]
    exact LeO.ite (LeO.ite (LeO.bind (goD_mono (fun x => ih x) _ _) fun _ => LeO.refl _) (LeO.none _)) (LeO.none _)
set_option maxRecDepth 100000 in
set_option maxHeartbeats 8000000 in
theorem tree_depth.calls (k : Nat) : ∀ (A0 : Option Addr) (c0 : Nat) (l0 : List (S45)) (a1 : Int) (r : Int) (w : World) (hr0 : Kd.C k45 w A0 l0.length l0) (hc0 : l0.length ≤ c0) (h : tree_depth.f k l0 a1 = some r),
    Calls Tryd.prog 39 #[.slice A0 l0.length c0, .int .i64 a1] w fun e w' => e = .returned (.int .i64 r) ∧ Below w.heap.size w w' := by
  induction k with
  | zero => intro A0 c0 l0 a1 r w hr0 hc0 h; exact absurd h (by simp [tree_depth.f])
  | succ k ih =>
    intro A0 c0 l0 a1 r w hr0 hc0 h
    rw [tree_depth.f] at h
    by_cases h0 : 0 ≤ a1
    · rw [if_pos h0] at h
      by_cases h1 : a1 < (l0.length : Int)
      · rw [if_pos h1] at h
        replace h := Option.bind_eq_some_iff.mp h
        obtain ⟨d0, h, hd⟩ := h
        obtain rfl := Option.some.inj hd
        clear hd
        obtain ⟨ad, e157, hx0, hx1, hx2, hx3, hx4, hx5, hx6, hx7, hx8, hx9⟩ := at_T45 hr0 a1 h0 h1
        cases e157
        have H := Aside0.mk h
        have HC := Aside0.mk hr0
        have HL := Aside0.mk hc0
        clear h hr0 hc0
        generalize hX : rd_T45 l0 a1 = x at *
        have HX := Aside0.mk hX
        clear hX
        go_enter Tryd.func39, Tryd.ntmps39
        go_wp2_with fail
        refine (kids_calls w.heap.size 0 x.f0 _ (by simp)).mono ?_
        rintro e w1 ⟨rfl, hb1, hp1⟩
        have hz : (w.alloc (.cells #[.int .i64 x.f0, .int .i64 x.f1, .int .i64 x.f2, .int .i64 x.f3, .int .i64 x.f4, .string x.f5, .string x.f6, .string x.f7, .string x.f8, .int .i64 x.f9] 45)).heap.size = w.heap.size + 1 := by simp
        have hB1 : Below w.heap.size w w1 := (((Below.refl _ _).alloc (Nat.le_refl _) _)).trans (hb1.mono (by omega))
        have hnode : w1.heap[w.heap.size]? = some (.cells #[.int .i64 x.f0, .int .i64 x.f1, .int .i64 x.f2, .int .i64 x.f3, .int .i64 x.f4, .string x.f5, .string x.f6, .string x.f7, .string x.f8, .int .i64 x.f9] 45 (0, 0)) :=
          (hb1.block w.heap.size (by omega)).trans (heap_alloc_new w _)
        rw [hz] at hp1 ⊢
        have hs1 : w.heap.size + 1 ≤ w1.heap.size := by have := hb1.size; omega
        clear hb1 hz
        generalize hn : kidsN x.f0 = n at *
        have hl := fieldPtrs_len w.heap.size (0 + 1) n
        have HN := Aside0.mk hn
        have HB1 := Aside0.mk hB1
        have HNODE := Aside0.mk hnode
        have HP1 := Aside0.mk hp1
        have HL1 := Aside0.mk hl
        have hn3 : n ≤ 3 := by rw [← hn]; exact kidsN_le _
        clear hn hB1 hnode hp1 hl
        go_wp2_with fail
        go_loopw [6, 15] (fun v6 v15 wr => ∃ (i : Nat) (d : Int), v6 = .int .i64 d ∧ v15 = .int .i64 i ∧ i ≤ n ∧ Aside0 (goD (tree_depth.f k l0) ((kidsOf x).drop i) d = some d0) ∧ Below w1.heap.size w1 wr) (fun _ v15 _ => n - (intOf v15).toNat)
        case atStart => exact ⟨0, 0, rfl, rfl, Nat.zero_le _, H, Below.refl _ _⟩
        case round =>
          obtain ⟨i, d, rfl, rfl, hi, HG, hbr⟩ := hrel
          have HBR := Aside0.mk hbr
          clear hbr H
          by_cases hlt : i < n
          · have hpA : ptrOf (w.heap.size + 1) n = some ⟨w.heap.size + 1, 0, none⟩ := ptrOf_some (by omega)
            rw [hpA]
            have hlen : (kidsOf x).length = n := (kidsOf_len x).trans HN.out
            have hget : ∃ c, (kidsOf x)[i]? = some c := ⟨_, List.getElem?_eq_getElem (by omega)⟩
            obtain ⟨c, hc⟩ := hget
            have hdrop : (kidsOf x).drop i = c :: (kidsOf x).drop (i + 1) := (hr_drop hc).symm
            have c1 : wr.cell? ⟨w.heap.size, 1 + i, none⟩ = some (.int .i64 c) := (HBR.out.cell (p := ⟨w.heap.size, 1 + i, none⟩) (by show w.heap.size < _; omega)).trans (node_cells x HNODE.out i c hc)
            have c2 : wr.cell? ⟨w.heap.size + 1, i, none⟩ = some (.pointer (some ⟨w.heap.size, 1 + i, none⟩)) := by
              have hh := blk_lt (HP1.out (by omega))
              rw [HBR.out.cell (p := ⟨w.heap.size + 1, i, none⟩) (by show w.heap.size + 1 < _; omega), blk_cell (HP1.out (by omega)) i]
              rw [List.getElem?_toArray]
              exact fieldPtrs_get _ _ _ _ hlt
            have HG' := HG.out
            rw [hdrop, goD] at HG'
            clear hdrop hlen HG hc
            have hcr : Aside0 (Kd.C k45 wr (some ad) l0.length l0) := ⟨Kd.C_below HC.out (HB1.out.trans (HBR.out.mono (by omega)))⟩
            replace HG' := Option.bind_eq_some_iff.mp HG'
            obtain ⟨r1, hr1, HG'⟩ := HG'
            have HR1 := Aside0.mk hr1
            have HG2 := Aside0.mk HG'
            clear hr1 HG'
            go_wp2_with (go_at_call 39; (with_reducible refine (ih (some ad) c0 l0 c r1 _ hcr.out HL.out HR1.out).mono ?_); rintro e w3 ⟨rfl, hb3⟩; have HB3 := Aside0.mk hb3; clear hb3)
            go_roundw
            case rel => exact ⟨i + 1, mx d r1, by first | rfl | (simp [mx]; done), by go_num, by omega, HG2, HBR.out.trans (HB3.out.mono (HBR.out.size))⟩
            case measure => simp [intOf]; omega
          · have hin : i = n := by omega
            have HG' := HG.out
            rw [List.drop_eq_nil_of_le (by rw [kidsOf_len, HN.out]; omega), goD] at HG'
            obtain rfl := Option.some.inj HG'
            clear HG' HG hin
            go_wp2
            go_ret
            exact ⟨rfl, HB1.out.trans (HBR.out.mono (by omega))⟩
      · rw [if_neg h1] at h; cases h
    · rw [if_neg h0] at h; cases h


end Go.Proofs.YtnogfhhfklkbiaaDoor.H

namespace Go.Proofs.YtnogfhhfklkbiaaDoor.H
open Go.RowKit Go.Proofs.YtnogfhhfklkbiaaDoorW.PrintWords Go.Proofs.YtnogfhhfklkbiaaDoorW.PrintLast Go.Proofs.YtnogfhhfklkbiaaDoorW.PrintMore
attribute [local go_sem] max2_int min2_int max_two min_two max_three min_three max_four min_four   -- for this text's walks alone
set_option linter.unusedVariables false
set_option linter.unusedSimpArgs false

/-! ### tree_Depth: function 14 -/
def tree_Depth.f (k : Nat) (l0 : List (S45)) (a1 : Int) : Option (Int × Int) := (tree_there.f k l0 a1).bind fun t317 => (if t317 = true then ((tree_depth.f k l0 a1).bind fun t318 => (some (t318, 0))) else (some (0, 300)))
theorem tree_Depth.mono : ∀ a0 a1 k, LeO (tree_Depth.f k a0 a1) (tree_Depth.f (k + 1) a0 a1) := by
  intro a0 a1 k
  unfold tree_Depth.f
  repeat' first
      | (with_reducible exact tree_depth.mono _ _ _)
      | (with_reducible exact tree_there.mono _ _ _)
      | (with_reducible exact LeO.refl _)
      | (with_reducible exact LeO.none _)
      | (with_reducible refine LeO.ite ?_ ?_)
      | (with_reducible refine LeO.bind ?_ (fun _ => ?_))
      | exact tree_depth.mono _ _ _
      | exact tree_there.mono _ _ _
      | exact LeO.none _
      | refine LeO.ite ?_ ?_
      | refine LeO.bind ?_ (fun _ => ?_)
set_option maxHeartbeats 8000000 in
set_option maxRecDepth 100000 in
theorem tree_Depth.calls (k : Nat) (A0 : Option Addr) (c0 : Nat) (l0 : List (S45)) (a1 : Int) (r1 : Int) (r2 : Int) (w : World) (hr0 : Kd.C k45 w A0 l0.length l0) (hc0 : l0.length ≤ c0) (h : tree_Depth.f k l0 a1 = some (r1, r2)) :
    Calls Tryd.prog 14 #[.slice A0 l0.length c0, .int .i64 a1] w fun e w' => e = .returned (.tuple #[.int .i64 r1, .int .i64 r2]) ∧ Below w.heap.size w w' := by
  have HR0 := Aside0.mk hr0
  have HC0 := Aside0.mk hc0
  clear hr0 hc0
  have HB := Aside0.mk (Below.refl w.heap.size w)
  have H : ((tree_there.f k l0 a1).bind fun t317 => (if t317 = true then ((tree_depth.f k l0 a1).bind fun t318 => (some (t318, 0))) else (some (0, 300)))) = some (r1, r2) := h
  clear h
  replace H := Option.bind_eq_some_iff.mp H
  obtain ⟨t317, A30, H⟩ := H
  replace H : (if t317 = true then ((tree_depth.f k l0 a1).bind fun t318 => (some (t318, 0))) else (some (0, 300))) = some (r1, r2) := H
  have A3 := Aside0.mk A30
  clear A30
  by_cases c4 : t317 = true
  · subst c4
    have H1 : ((tree_depth.f k l0 a1).bind fun t318 => (some (t318, 0))) = some (r1, r2) := by rw [if_pos rfl] at H; exact H
    clear H
    have H := H1
    clear H1
    replace H := Option.bind_eq_some_iff.mp H
    obtain ⟨t318, A50, H⟩ := H
    replace H : (some (t318, 0)) = some (r1, r2) := H
    have A5 := Aside0.mk A50
    clear A50
    simp only [Option.some.injEq, Prod.mk.injEq] at H
    obtain ⟨rfl, rfl⟩ := H
    go_enter Tryd.func14, Tryd.ntmps14
    go_wp2_with (first | ((with_reducible refine gate_callee (f := 38) rfl ?_); refine goesL_ (some 8) rfl rfl Tryd.func38 (by kernel_rfl) rfl #[.slice A0 l0.length c0, .int .i64 a1] rfl (by (try simp only [List.map_toArray, List.map_cons, List.map_nil]); first | done | rfl | (simp only [List.length_drop, List.length_take]; rfl)) ?_; (with_reducible refine (tree_there.calls k _ _ l0 a1 true _ ?side1 ?side2 A3.out).mono ?_); (case side1 => repeat (first | exact HR0.out | (with_reducible refine Kd.C_alloc ?_ _) | (with_reducible refine Kd.C_drewN ?_ _) | (with_reducible refine Kd.C_drew ?_))); (case side2 => exact HC0.out); rintro e w6 ⟨rfl, hb⟩; refine ⟨_, rfl, ?_⟩; have n0_ := Aside0.mk (below_step (by repeat (first | (with_reducible first | exact HB.out | apply below_alloc | apply pw_below_drewN | apply below_drew1) | exact HB.out)) hb); clear HB; have HB := n0_; clear n0_; (try clear hb); (try clear hb2); (try clear hk); (try clear hi)) | ((with_reducible refine gate_callee (f := 39) rfl ?_); refine goesL_ (some 12) rfl rfl Tryd.func39 (by kernel_rfl) rfl #[.slice A0 l0.length c0, .int .i64 a1] rfl (by (try simp only [List.map_toArray, List.map_cons, List.map_nil]); first | done | rfl | (simp only [List.length_drop, List.length_take]; rfl)) ?_; (with_reducible refine (tree_depth.calls k _ _ l0 a1 t318 _ ?side1 ?side2 A5.out).mono ?_); (case side1 => repeat (first | exact (Kd.C_below HR0.out HB.out) | (with_reducible refine Kd.C_alloc ?_ _) | (with_reducible refine Kd.C_drewN ?_ _) | (with_reducible refine Kd.C_drew ?_))); (case side2 => exact HC0.out); rintro e w7 ⟨rfl, hb⟩; refine ⟨_, rfl, ?_⟩; have n0_ := Aside0.mk (below_step (by repeat (first | (with_reducible first | exact HB.out | apply below_alloc | apply pw_below_drewN | apply below_drew1) | exact HB.out)) hb); clear HB; have HB := n0_; clear n0_; (try clear hb); (try clear hb2); (try clear hk); (try clear hi)))
    go_ret2
    exact ⟨by first | rfl | (simp [errW_none, errW_some] <;> rfl) | (simp [*, errW_none, errW_some] <;> rfl), by repeat (first | (with_reducible first | exact HB.out | apply below_alloc | apply pw_below_drewN | apply below_drew1) | exact HB.out)⟩
  · replace c4 := Bool.eq_false_iff.mpr c4
    subst c4
    have H1 : (some (0, 300)) = some (r1, r2) := by rw [if_neg (show ¬ (false = true) by decide)] at H; exact H
    clear H
    have H := H1
    clear H1
    simp only [Option.some.injEq, Prod.mk.injEq] at H
    obtain ⟨rfl, rfl⟩ := H
    go_enter Tryd.func14, Tryd.ntmps14
    go_wp2_with (first | ((with_reducible refine gate_callee (f := 38) rfl ?_); refine goesL_ (some 8) rfl rfl Tryd.func38 (by kernel_rfl) rfl #[.slice A0 l0.length c0, .int .i64 a1] rfl (by (try simp only [List.map_toArray, List.map_cons, List.map_nil]); first | done | rfl | (simp only [List.length_drop, List.length_take]; rfl)) ?_; (with_reducible refine (tree_there.calls k _ _ l0 a1 false _ ?side1 ?side2 A3.out).mono ?_); (case side1 => repeat (first | exact HR0.out | (with_reducible refine Kd.C_alloc ?_ _) | (with_reducible refine Kd.C_drewN ?_ _) | (with_reducible refine Kd.C_drew ?_))); (case side2 => exact HC0.out); rintro e w8 ⟨rfl, hb⟩; refine ⟨_, rfl, ?_⟩; have n0_ := Aside0.mk (below_step (by repeat (first | (with_reducible first | exact HB.out | apply below_alloc | apply pw_below_drewN | apply below_drew1) | exact HB.out)) hb); clear HB; have HB := n0_; clear n0_; (try clear hb); (try clear hb2); (try clear hk); (try clear hi)))
    go_ret2
    exact ⟨by first | rfl | (simp [errW_none, errW_some] <;> rfl) | (simp [*, errW_none, errW_some] <;> rfl), by repeat (first | (with_reducible first | exact HB.out | apply below_alloc | apply pw_below_drewN | apply below_drew1) | exact HB.out)⟩

end Go.Proofs.YtnogfhhfklkbiaaDoor.H

namespace Go.Proofs.YtnogfhhfklkbiaaDoor.H
open Go.RowKit Go.Proofs.YtnogfhhfklkbiaaDoorW.PrintWords Go.Proofs.YtnogfhhfklkbiaaDoorW.PrintLast Go.Proofs.YtnogfhhfklkbiaaDoorW.PrintMore
attribute [local go_sem] max2_int min2_int max_two min_two max_three min_three max_four min_four   -- for this text's walks alone
set_option linter.unusedVariables false
set_option linter.unusedSimpArgs false

/-! ### slices_Clone_Node: function 43 -/
-- for slices.Clone[[]trammel/api.Node,trammel/api.Node]
-- making
-- import Derived.Lib.SliceRun
set_option maxHeartbeats 8000000 in
set_option maxRecDepth 100000 in
theorem clone_calls (ad : Addr) (c0 : Nat) (l0 : List S45) (w : World) (hr0 : Kd.C k45 w (some ad) l0.length l0) (hlim : l0.length < 1256584717458) :
    Calls Tryd.prog 43 #[.slice (some ad) l0.length c0] w fun e w' => ∃ v0_ : Value, e = .returned (v0_) ∧ Kd.R k45 45 w' w.heap.size (fun _ => True) v0_ l0 ∧ Below w.heap.size w w' := by
  have HR0 := Aside0.mk hr0
  have LMc2 := Aside0.mk hlim
  clear hr0 hlim
  have HB := Aside0.mk (Below.refl w.heap.size w)
  have info45 : (Tryd.prog.info? 45).map (fun i => (i.zero, i.size, i.bytes)) = some (some (.agg #[(.int .i64 0), (.int .i64 0), (.int .i64 0), (.int .i64 0), (.int .i64 0), (.string ⟨#[]⟩), (.string ⟨#[]⟩), (.string ⟨#[]⟩), (.string ⟨#[]⟩), (.int .i64 0)]), 10, 112) := by kernel_rfl
  have hnil := fun w => Lib.run_eql_slice_nil (P := Tryd.prog) w 23 45 (some ad) l0.length c0 0 0 Tryd.underlying23
  go_enter Tryd.func43, Tryd.ntmps43
  go_wp2_with (first | ((with_reducible refine gate_dst (N := 5) rfl ?_); refine Kd.R_lit k45 _ 45 ?hg (N := 5) ?hd (xs := ([] : List (S45))) (inner := []) (ok := fun _ => True) (okp := fun _ => True) ?hr ?hp (fun _ hk => hk) trivial (Below.refl _ _) (Nat.le_refl _) (by simp) ?_; (case hd => rfl); (case hg => rfl); (case hr => first | (go_simp; done) | (go_simp; rfl)); (case hp => exact (Reps.none _ _)); intro v296 w3 ho4 hb hg_ hnew_; clear hg_ hnew_; have n0_ := Aside0.mk (Kd.R_lower ho4 (below_size (by repeat (first | (with_reducible first | exact HB.out | apply below_alloc | apply pw_below_drewN | apply below_drew1) | exact HB.out)))); have n1_ := Aside0.mk (below_step (by repeat (first | (with_reducible first | exact HB.out | apply below_alloc | apply pw_below_drewN | apply below_drew1) | exact HB.out)) hb); clear HB; have HO297 := n0_; have HB := n1_; clear n0_ n1_; clear hb ho4) | ((with_reducible refine gate_builtin (b := .append) (xs := #[.tmp 5, .tmp 6]) rfl ?_); at_builtin; refine Kd.R_append_rows k45 (w0 := w) w.heap.size rfl (.tmp 5) (.tmp 6) 23 45 (.agg #[(.int .i64 0), (.int .i64 0), (.int .i64 0), (.int .i64 0), (.int .i64 0), (.string ⟨#[]⟩), (.string ⟨#[]⟩), (.string ⟨#[]⟩), (.string ⟨#[]⟩), (.int .i64 0)]) 112 rfl Tryd.underlying23 info45 rfl (by decide) (by omega) v296 [] l0 _ _ _ (fun _ => True) (fun _ => False) rfl rfl ?aO ?aR (fun _ _ h => h) (fun _ h => h.elim) ?aF ?aB ?aS ?aL ?_; (case aR => repeat (first | exact (Kd.C_below HR0.out HB.out) | (with_reducible refine Kd.C_alloc ?_ _) | (with_reducible refine Kd.C_drewN ?_ _) | (with_reducible refine Kd.C_drew ?_))); (case aB => exact (by repeat (first | (with_reducible first | exact HB.out | apply below_alloc | apply pw_below_drewN | apply below_drew1) | exact HB.out))); (case aF => exact (fun _ _ => trivial)); (case aO => exact (by (with_reducible repeat (first | apply Kd.R_alloc | apply Kd.R_drewN | apply Kd.R_drew)); exact HO297.out)); (case aS => exact (below_size (by repeat (first | (with_reducible first | exact HB.out | apply below_alloc | apply pw_below_drewN | apply below_drew1) | exact HB.out)))); (case aL => have := LMc2.out; simp; omega); intro v299 w5 ho hb hg hat; rw [List.nil_append] at ho; have n0_ := Aside0.mk (hb); have n1_ := Aside0.mk (ho); clear HB; clear HO297; have HB := n0_; have HO300 := n1_; clear n0_ n1_; clear ho hb hg hat))
  go_ret
  exact ⟨_, rfl, by (with_reducible repeat (first | apply Kd.R_alloc | apply Kd.R_drewN | apply Kd.R_drew)); exact HO300.out, by repeat (first | (with_reducible first | exact HB.out | apply below_alloc | apply pw_below_drewN | apply below_drew1) | exact HB.out)⟩


end Go.Proofs.YtnogfhhfklkbiaaDoor.H

namespace Go.Proofs.YtnogfhhfklkbiaaDoor.H
open Go.RowKit Go.Proofs.YtnogfhhfklkbiaaDoorW.PrintWords Go.Proofs.YtnogfhhfklkbiaaDoorW.PrintLast Go.Proofs.YtnogfhhfklkbiaaDoorW.PrintMore
attribute [local go_sem] max2_int min2_int max_two min_two max_three min_three max_four min_four   -- for this text's walks alone
set_option linter.unusedVariables false
set_option linter.unusedSimpArgs false

/-! ### tree_Part: function 16 -/
-- rounds -- making
/-- A node of which the first j children stand so many places on. -/
def moveN (b : Int) (j : Nat) (x : S45) : S45 := { x with f1 := if 0 < j then wrap64 (x.f1 - b) else x.f1, f2 := if 1 < j then wrap64 (x.f2 - b) else x.f2, f3 := if 2 < j then wrap64 (x.f3 - b) else x.f3 }
def movedKids (b : Int) (x : S45) : S45 := moveN b (kidsN x.f0) x
theorem moveN_zero (b : Int) (x : S45) : moveN b 0 x = x := rfl
def cellList (x : S45) : List Value := [.int .i64 x.f0, .int .i64 x.f1, .int .i64 x.f2, .int .i64 x.f3, .int .i64 x.f4, .string x.f5, .string x.f6, .string x.f7, .string x.f8, .int .i64 x.f9]
/-- The next child's field as it stands, and the node when it is moved. -/
theorem move_step (b : Int) (j : Nat) (x : S45) (h : j < 3) : ∃ c, (cellList (moveN b j x))[1 + j]? = some (.int .i64 c) ∧ (cellList (moveN b j x)).take (1 + j) ++ [.int .i64 (wrap64 (c - b))] ++ (cellList (moveN b j x)).drop (1 + j + 1) = cellList (moveN b (j + 1) x) := by
  match j, h with
  | 0, _ => exact ⟨x.f1, rfl, rfl⟩
  | 1, _ => exact ⟨x.f2, rfl, rfl⟩
  | 2, _ => exact ⟨x.f3, rfl, rfl⟩
def tree_Part.f (k : Nat) (l0 : List S45) (a1 : Int) : Option ((List S45) × Int) :=
  (tree_there.f k l0 a1).bind fun t => if t = true then (tree_Begin.f k l0 a1).bind fun b => if 0 ≤ b ∧ b ≤ a1 ∧ a1 < l0.length ∧ l0.length < 1256584717458 then some (((l0.drop b.toNat).take (a1 + 1 - b).toNat).map (movedKids b), 0) else none else some ([], 300)
theorem tree_Part.mono : ∀ a0 a1 k, LeO (tree_Part.f k a0 a1) (tree_Part.f (k + 1) a0 a1) := by
  intro a0 a1 k
  unfold tree_Part.f
  exact LeO.bind (tree_there.mono _ _ k) fun t => LeO.ite (LeO.bind (tree_Begin.mono _ _ k) fun b => LeO.refl _) (LeO.refl _)
theorem part_next (b : Int) (xs : List S45) (i : Nat) (x : S45) (h : xs[i]? = some x) : ((xs.take i).map (movedKids b) ++ xs.drop i).set i (movedKids b x) = (xs.take (i + 1)).map (movedKids b) ++ xs.drop (i + 1) := by
  obtain ⟨hi, rfl⟩ := List.getElem?_eq_some_iff.1 h
  have hl : ((xs.take i).map (movedKids b)).length = i := by simp; omega
  rw [List.set_append_right _ _ (by omega), hl, Nat.sub_self, List.drop_eq_getElem_cons hi, List.set_cons_zero, List.take_succ_eq_append_getElem hi, List.map_append, List.append_assoc]
  rfl
theorem part_at (b : Int) (xs : List S45) (i : Nat) (x : S45) (h : xs[i]? = some x) : ((xs.take i).map (movedKids b) ++ xs.drop i).getD i z45 = x := by
  obtain ⟨hi, rfl⟩ := List.getElem?_eq_some_iff.1 h
  have hl : ((xs.take i).map (movedKids b)).length = i := by simp; omega
  rw [List.getD_eq_getElem?_getD, List.getElem?_append_right (by omega), hl, Nat.sub_self, List.getElem?_drop]
  simp [hi]
set_option maxRecDepth 100000 in
set_option maxHeartbeats 8000000 in
theorem tree_Part.calls (k : Nat) (A0 : Option Addr) (c0 : Nat) (l0 : List (S45)) (a1 : Int) (r1 : List (S45)) (r2 : Int) (w : World) (hr0 : Kd.C k45 w A0 l0.length l0) (hc0 : l0.length ≤ c0) (h : tree_Part.f k l0 a1 = some (r1, r2)) :
    Calls Tryd.prog 16 #[.slice A0 l0.length c0, .int .i64 a1] w fun e w' => ∃ v0_ : Value, e = .returned (.tuple #[v0_, .int .i64 r2]) ∧ Kd.R k45 45 w' w.heap.size (fun _ => True) v0_ r1 ∧ Below w.heap.size w w' := by
  unfold tree_Part.f at h
  replace h := Option.bind_eq_some_iff.mp h
  obtain ⟨t, ht, h⟩ := h
  have HC := Aside0.mk hr0
  have HL := Aside0.mk hc0
  have HT := Aside0.mk ht
  clear hr0 hc0 ht
  cases t with
  | false =>
    simp only [Bool.false_eq_true, if_false] at h
    obtain ⟨rfl, rfl⟩ := Prod.mk.inj (Option.some.inj h)
    clear h
    go_enter Tryd.func16, Tryd.ntmps16
    go_wp2_with (go_at_call 38; (with_reducible refine (tree_there.calls k A0 c0 l0 a1 false _ HC.out HL.out HT.out).mono ?_); rintro e w3 ⟨rfl, hb3⟩; have HB3 := Aside0.mk hb3; clear hb3)
    go_ret2
    exact ⟨_, rfl, Kd.R_nil _ _ _ _ _, HB3.out⟩
  | true =>
    simp only [if_true] at h
    replace h := Option.bind_eq_some_iff.mp h
    obtain ⟨b, hb, h⟩ := h
    have HBG := Aside0.mk hb
    clear hb
    by_cases hc : 0 ≤ b ∧ b ≤ a1 ∧ a1 < l0.length ∧ l0.length < 1256584717458
    · rw [if_pos hc] at h
      obtain ⟨rfl, rfl⟩ := Prod.mk.inj (Option.some.inj h)
      clear h
      obtain ⟨c1, c2, c3, c4⟩ := hc
      obtain ⟨bn, rfl⟩ := Int.eq_ofNat_of_zero_le c1
      obtain ⟨an, rfl⟩ := Int.eq_ofNat_of_zero_le (Int.le_trans c1 c2)
      rw [Int.toNat_natCast, show ((an : Int) + 1 - (bn : Int)).toNat = an + 1 - bn from by omega]
      obtain ⟨ad, rfl, _⟩ := HC.out.2.2 (by omega)
      have hlc := HL.out
      go_enter Tryd.func16, Tryd.ntmps16
      go_wp2_with (first | (go_at_call 38; (with_reducible refine (tree_there.calls k (some ad) c0 l0 an true _ HC.out HL.out HT.out).mono ?_); rintro e w3 ⟨rfl, hb3⟩; have HB3 := Aside0.mk hb3; clear hb3) | (go_at_call 42; (with_reducible refine (tree_Begin.calls k (some ad) c0 l0 an bn _ (Kd.C_below HC.out HB3.out) HL.out HBG.out).mono ?_); rintro e w4 ⟨rfl, hb4⟩; have HB4 := Aside0.mk (HB3.out.trans (hb4.mono HB3.out.size)); clear hb4))
      have hxs : Kd.C k45 w4 (some (ad.add (bn * 10))) ((l0.drop bn).take (an + 1 - bn)).length ((l0.drop bn).take (an + 1 - bn)) := by
        have h1 := Kd.C_drop (m := bn) (c := c0) (Kd.C_below HC.out HB4.out) (by omega) hlc
        rw [if_neg (by omega)] at h1
        exact Kd.C_take h1 (by rw [List.length_drop]; omega)
      have hxl : ((l0.drop bn).take (an + 1 - bn)).length = an + 1 - bn := by rw [List.length_take, List.length_drop]; omega
      obtain ⟨xs, hxsE⟩ : ∃ xs, xs = (l0.drop bn).take (an + 1 - bn) := ⟨_, rfl⟩
      rw [← hxsE] at hxs hxl
      have HXE := Aside0.mk hxsE
      clear hxsE
      have hm0 : an + 1 - bn < 1256584717458 ∧ 0 < an + 1 - bn := by omega
      generalize hmE : an + 1 - bn = m at *
      have HME := Aside0.mk hmE
      clear hmE
      have hcl := clone_calls (ad.add (bn * 10)) (c0 - bn) xs w4 hxs (by omega)
      rw [hxl] at hcl
      have HXL := Aside0.mk hxl
      have hm1 : 0 < xs.length := by omega
      refine hcl.mono ?_
      rintro e w5 ⟨v5, rfl, ho5, hb5⟩
      have HB5 := Aside0.mk (HB4.out.trans (hb5.mono HB4.out.size))
      obtain ⟨g, cap, rfl, hg0, hg1, _⟩ := Kd.R_form ho5 hm1
      rw [hxl]
      have HO5 := Aside0.mk (Kd.R_lower ho5 HB4.out.size)
      rw [hxl] at HO5
      have hgw : w.heap.size ≤ g := by have := HB4.out.size; omega
      clear hcl hxs ho5 hb5 hxl hg0 hg1
      go_wp2_with fail
      go_loopw [26] (fun v26 wr => ∃ (i : Nat), v26 = .int .i64 i ∧ i ≤ m ∧ Aside0 (Kd.R k45 45 wr w.heap.size (fun _ => True) (.slice (some ⟨g, 0, none⟩) m cap) ((xs.take i).map (movedKids bn) ++ xs.drop i)) ∧ Aside0 (Below w.heap.size w wr)) (fun v26 _ => m - (intOf v26).toNat)
      case atStart => exact ⟨0, rfl, Nat.zero_le _, HO5, HB5⟩
      case round =>
        obtain ⟨i, rfl, hi, HO, HB⟩ := hrel
        clear HO5 HB5
        by_cases hlt : i < m
        · have hix : i < xs.length := by have := HXL.out; omega
          obtain ⟨x, hx⟩ : ∃ x, xs[i]? = some x := ⟨_, List.getElem?_eq_getElem hix⟩
          have HX := Aside0.mk hx
          obtain ⟨c, hcl, hM, hcc, hff⟩ := Kd.R_elem HO.out z45 i (by omega) (by omega)
          rw [Int.toNat_natCast, part_at _ _ _ _ hx] at hM
          rw [Int.toNat_natCast] at hcc
          obtain rfl := k45_openM hM
          have d0 : wr.cell? ⟨g, i * 10, none⟩ = some (.int .i64 x.f0) := hcc 0 _ rfl
          clear hcl hM hcc hff hx
          go_wp2_with fail
          refine (kids_calls g (i * 10) x.f0 wr d0).mono ?_
          rintro e w6 ⟨rfl, hb6, hp6⟩
          have HB6 := Aside0.mk (HB.out.trans (hb6.mono HB.out.size))
          have hgl : g < wr.heap.size := World.block_lt_of_cell? wr ⟨g, i * 10, none⟩ d0
          have HO6 := Aside0.mk (show Kd.R k45 45 w6 w.heap.size (fun _ => True) (.slice (some ⟨g, 0, none⟩) m cap) (((xs.take i).map (movedKids bn) ++ xs.drop i).set i (moveN bn 0 x)) by
            have h1 := Kd.R_below HO.out hb6
            rw [moveN_zero]
            have e : ((xs.take i).map (movedKids bn) ++ xs.drop i).set i x = (xs.take i).map (movedKids bn) ++ xs.drop i := by
              have hl : ((xs.take i).map (movedKids bn)).length = i := by simp; omega
              rw [List.set_append_right _ _ (by omega), hl, Nat.sub_self]
              obtain ⟨h2, rfl⟩ := List.getElem?_eq_some_iff.1 HX.out
              rw [List.drop_eq_getElem_cons h2, List.set_cons_zero]
            rw [e]
            exact h1)
          have HP6 := Aside0.mk hp6
          clear hb6 hp6 HO HB d0
          generalize hg1 : wr.heap.size = g1 at *
          have hn3 := kidsN_le x.f0
          generalize hN : kidsN x.f0 = n3 at *
          have HN := Aside0.mk hN
          have HI := Aside0.mk (show ((xs.take i).map (movedKids bn) ++ xs.drop i).length = m by rw [List.length_append, List.length_map, List.length_take, List.length_drop, HXL.out]; omega)
          generalize hY : (xs.take i).map (movedKids bn) ++ xs.drop i = ys at *
          have HY := Aside0.mk hY
          clear hg1 hN hY
          go_wp2_with fail
          go_loopw [34] (fun v34 wr => ∃ (j : Nat), v34 = .int .i64 j ∧ j ≤ n3 ∧ Aside0 (Kd.R k45 45 wr w.heap.size (fun _ => True) (.slice (some ⟨g, 0, none⟩) m cap) (ys.set i (moveN bn j x))) ∧ Aside0 (0 < n3 → wr.heap[g1]? = some (.cells (fieldPtrs g (i * 10 + 1) n3).toArray 74 (0, 0))) ∧ Aside0 (Below w.heap.size w wr)) (fun v34 _ => n3 - (intOf v34).toNat)
          case atStart => exact ⟨0, rfl, Nat.zero_le _, HO6, HP6, HB6⟩
          case round =>
            obtain ⟨j, rfl, hj, HOJ, HPJ, HBJ⟩ := hrel
            clear HO6 HP6 HB6
            by_cases hlj : j < n3
            · have hpA : ptrOf g1 n3 = some ⟨g1, 0, none⟩ := ptrOf_some (by omega)
              rw [hpA]
              obtain ⟨c, hstep, hlist⟩ := move_step bn j x (by omega)
              obtain ⟨cs, hcl, hM, hcc, hff⟩ := Kd.R_elem HOJ.out z45 i (by omega) (by omega)
              have hgetD : (ys.set i (moveN bn j x)).getD i z45 = moveN bn j x := by
                rw [List.getD_eq_getElem?_getD, List.getElem?_set_self (by rw [HI.out]; exact hlt)]
                rfl
              rw [Int.toNat_natCast, hgetD] at hM
              rw [Int.toNat_natCast] at hcc hff
              obtain rfl := k45_openM hM
              have d1 : wr.cell? ⟨g, i * 10 + 1 + j, none⟩ = some (.int .i64 c) := by
                rw [Nat.add_assoc]
                exact hcc (1 + j) _ hstep
              have f1 : wr.frozen? ⟨g, i * 10 + 1 + j, none⟩ = false := by
                rw [Nat.add_assoc]
                exact hff (1 + j)
              have c2 : wr.cell? ⟨g1, j, none⟩ = some (.pointer (some ⟨g, i * 10 + 1 + j, none⟩)) := by
                rw [blk_cell (HPJ.out (by omega)) j, List.getElem?_toArray]
                exact fieldPtrs_get _ _ _ _ hlj
              have hne : g ≠ g1 := by omega
              have HS := Aside0.mk (Kd.R_seg HOJ.out (i := (i : Int)) (by omega) (by omega) (c := cellList (moveN bn j x)) (seg := [.int .i64 (wrap64 (c - bn))]) (j := 1 + j) (x' := moveN bn (j + 1) x) (okp := fun _ => False) rfl
                (by rw [Int.toNat_natCast]; exact hcc) (by show 1 + j + 1 ≤ 10; omega) (by rw [show ([Value.int .i64 (wrap64 (c - bn))]).length = 1 from rfl, hlist]; exact k45_mkM _ _ _ _) (fun _ h => h.elim))
              clear hcl hM hcc hff hgetD hstep hlist HOJ
              go_wp2
              go_roundw
              case rel =>
                refine ⟨j + 1, by go_num, by omega, ⟨?_⟩, ⟨fun _ => ?_⟩, ⟨HBJ.out.setCell hgw _⟩⟩
                · have h1 := HS.out.1
                  rw [Int.toNat_natCast, show i * (k45).sz + (1 + j) = i * 10 + 1 + j from by show i * 10 + (1 + j) = _; omega, List.set_set] at h1
                  exact h1
                · exact blk_far (HPJ.out (by omega)) (by show g1 ≠ g; omega) _
              case measure => simp [intOf]; omega
            · have hjn : j = n3 := by omega
              subst hjn
              go_wp2
              go_roundw
              case rel =>
                refine ⟨i + 1, by go_num, by omega, ⟨?_⟩, HBJ⟩
                have h1 := HOJ.out
                rw [← HN.out, ← HY.out, show moveN bn (kidsN x.f0) x = movedKids bn x from rfl, part_next _ _ _ _ HX.out] at h1
                exact h1
              case measure => simp [intOf]; omega
        · have him : i = m := by omega
          subst him
          have ho := HO.out
          rw [List.take_of_length_le (by rw [HXL.out]; exact Nat.le_refl _), List.drop_eq_nil_of_le (by rw [HXL.out]; exact Nat.le_refl _), List.append_nil] at ho
          have HO2 := Aside0.mk ho
          clear ho HO
          go_wp2
          go_ret2
          exact ⟨.slice (some ⟨g, 0, none⟩) i cap, rfl, (by first | (rw [HME.out, ← HXE.out]; exact HO2.out) | (rw [← HXE.out]; exact HO2.out)), HB.out⟩
    · rw [if_neg hc] at h
      cases h


end Go.Proofs.YtnogfhhfklkbiaaDoor.H

namespace Go.Proofs.YtnogfhhfklkbiaaDoor.H
open Go.RowKit Go.Proofs.YtnogfhhfklkbiaaDoorW.PrintWords Go.Proofs.YtnogfhhfklkbiaaDoorW.PrintLast Go.Proofs.YtnogfhhfklkbiaaDoorW.PrintMore
attribute [local go_sem] max2_int min2_int max_two min_two max_three min_three max_four min_four   -- for this text's walks alone
set_option linter.unusedVariables false
set_option linter.unusedSimpArgs false

attribute [local go_sem high] eqA45
/-! ### tree_Same_1: function 51 -/
def tree_Same_1.f (a0_0 : Int) (a0_1 : Int) (a0_2 : Int) (a0_3 : Int) (a0_4 : Int) (a0_5 : ByteArray) (a0_6 : ByteArray) (a0_7 : ByteArray) (a0_8 : ByteArray) (a0_9 : Int) (a1_0 : Int) (a1_1 : Int) (a1_2 : Int) (a1_3 : Int) (a1_4 : Int) (a1_5 : ByteArray) (a1_6 : ByteArray) (a1_7 : ByteArray) (a1_8 : ByteArray) (a1_9 : Int) : Option (Bool) := some (a0_0 == a1_0 && (a0_1 == a1_1 && (a0_2 == a1_2 && (a0_3 == a1_3 && (a0_4 == a1_4 && (a0_5.toList == a1_5.toList && (a0_6.toList == a1_6.toList && (a0_7.toList == a1_7.toList && (a0_8.toList == a1_8.toList)))))))))
set_option maxHeartbeats 8000000 in
set_option maxRecDepth 100000 in
theorem tree_Same_1.calls (a0_0 : Int) (a0_1 : Int) (a0_2 : Int) (a0_3 : Int) (a0_4 : Int) (a0_5 : ByteArray) (a0_6 : ByteArray) (a0_7 : ByteArray) (a0_8 : ByteArray) (a0_9 : Int) (a1_0 : Int) (a1_1 : Int) (a1_2 : Int) (a1_3 : Int) (a1_4 : Int) (a1_5 : ByteArray) (a1_6 : ByteArray) (a1_7 : ByteArray) (a1_8 : ByteArray) (a1_9 : Int) (r : Bool) (w : World) (h : tree_Same_1.f a0_0 a0_1 a0_2 a0_3 a0_4 a0_5 a0_6 a0_7 a0_8 a0_9 a1_0 a1_1 a1_2 a1_3 a1_4 a1_5 a1_6 a1_7 a1_8 a1_9 = some r) :
    Calls Tryd.prog 51 #[.agg #[.int .i64 a0_0, .int .i64 a0_1, .int .i64 a0_2, .int .i64 a0_3, .int .i64 a0_4, .string a0_5, .string a0_6, .string a0_7, .string a0_8, .int .i64 a0_9], .agg #[.int .i64 a1_0, .int .i64 a1_1, .int .i64 a1_2, .int .i64 a1_3, .int .i64 a1_4, .string a1_5, .string a1_6, .string a1_7, .string a1_8, .int .i64 a1_9]] w fun e w' => e = .returned (.bool r) ∧ Below w.heap.size w w' := by
  have hu45 := Tryd.underlying45
  have HB := Aside0.mk (Below.refl w.heap.size w)
  have H : (some (a0_0 == a1_0 && (a0_1 == a1_1 && (a0_2 == a1_2 && (a0_3 == a1_3 && (a0_4 == a1_4 && (a0_5.toList == a1_5.toList && (a0_6.toList == a1_6.toList && (a0_7.toList == a1_7.toList && (a0_8.toList == a1_8.toList)))))))))) = some r := h
  clear h
  obtain rfl := Option.some.inj H
  go_enter Tryd.func51, Tryd.ntmps51
  go_wp2_with (first | ((with_reducible refine gate_dst (N := 2) rfl ?_); refine box_event ?hg (N := 2) ?hd (cs := #[.int .i64 a0_0, .int .i64 a0_1, .int .i64 a0_2, .int .i64 a0_3, .int .i64 a0_4, .string a0_5, .string a0_6, .string a0_7, .string a0_8, .int .i64 a0_9]) (t := 45) ?hr ?_; (case hd => rfl); (case hg => rfl); (case hr => first | (go_simp; done) | (go_simp; rfl)); intro gb309 hg w3 hbox hb; have n0_ := Aside0.mk (below_step (by repeat (first | (with_reducible first | exact HB.out | apply below_alloc | apply pw_below_drewN | apply below_drew1) | exact HB.out)) hb); have n1_ := Aside0.mk (hbox); have n2_ := Aside0.mk ((by rw [hg]; exact (below_size (by repeat (first | (with_reducible first | exact HB.out | apply below_alloc | apply pw_below_drewN | apply below_drew1) | exact HB.out))) : w.heap.size ≤ gb309)); have n3_ := Aside0.mk ((by rw [hg]; exact (below_size (by repeat (first | (with_reducible first | exact HB.out | apply below_alloc | apply pw_below_drewN | apply below_drew1) | exact HB.out))) : w.heap.size ≤ gb309)); clear HB; have HB := n0_; have BK309 := n1_; have GW309 := n2_; have GE309 := n3_; clear n0_ n1_ n2_ n3_; clear hb hbox hg) | ((with_reducible refine gate_dst (N := 3) rfl ?_); refine box_event ?hg (N := 3) ?hd (cs := #[.int .i64 a1_0, .int .i64 a1_1, .int .i64 a1_2, .int .i64 a1_3, .int .i64 a1_4, .string a1_5, .string a1_6, .string a1_7, .string a1_8, .int .i64 a1_9]) (t := 45) ?hr ?_; (case hd => rfl); (case hg => rfl); (case hr => first | (go_simp; done) | (go_simp; rfl)); intro gb310 hg w4 hbox hb; have n0_ := Aside0.mk (blk_below (g := gb309) (o := .cells #[.int .i64 a0_0, .int .i64 a0_1, .int .i64 a0_2, .int .i64 a0_3, .int .i64 a0_4, .string a0_5, .string a0_6, .string a0_7, .string a0_8, .int .i64 a0_9] 45 (0, 0)) (by (with_reducible repeat (first | refine blk_drewN ?_ _ | refine blk_drew ?_ | refine blk_alloc ?_ _)); exact BK309.out) hb); have n1_ := Aside0.mk (below_step (by repeat (first | (with_reducible first | exact HB.out | apply below_alloc | apply pw_below_drewN | apply below_drew1 | refine below_set ?_ GE309.out) | exact HB.out)) hb); have n2_ := Aside0.mk (hbox); have n3_ := Aside0.mk ((by rw [hg]; exact (below_size (by repeat (first | (with_reducible first | exact HB.out | apply below_alloc | apply pw_below_drewN | apply below_drew1 | refine below_set ?_ GE309.out) | exact HB.out))) : w.heap.size ≤ gb310)); have n4_ := Aside0.mk ((by rw [hg]; exact (below_size (by repeat (first | (with_reducible first | exact HB.out | apply below_alloc | apply pw_below_drewN | apply below_drew1 | refine below_set ?_ GE309.out) | exact HB.out))) : w.heap.size ≤ gb310)); have n5_ := Aside0.mk ((by rw [hg]; exact Nat.ne_of_lt (blk_lt (g := gb309) (o := .cells #[.int .i64 a0_0, .int .i64 a0_1, .int .i64 a0_2, .int .i64 a0_3, .int .i64 a0_4, .string a0_5, .string a0_6, .string a0_7, .string a0_8, .int .i64 a0_9] 45 (0, 0)) (by (with_reducible repeat (first | refine blk_drewN ?_ _ | refine blk_drew ?_ | refine blk_alloc ?_ _)); exact BK309.out)) : gb309 ≠ gb310)); have n6_ := Aside0.mk ((by rw [hg]; exact Nat.ne_of_gt (blk_lt (g := gb309) (o := .cells #[.int .i64 a0_0, .int .i64 a0_1, .int .i64 a0_2, .int .i64 a0_3, .int .i64 a0_4, .string a0_5, .string a0_6, .string a0_7, .string a0_8, .int .i64 a0_9] 45 (0, 0)) (by (with_reducible repeat (first | refine blk_drewN ?_ _ | refine blk_drew ?_ | refine blk_alloc ?_ _)); exact BK309.out)) : gb310 ≠ gb309)); clear BK309; clear HB; have BK309 := n0_; have HB := n1_; have BK310 := n2_; have GW310 := n3_; have GE310 := n4_; have NB309_310 := n5_; have NB310_309 := n6_; clear n0_ n1_ n2_ n3_ n4_ n5_ n6_; clear hb hbox hg; have hnb5 := NB309_310.out; have hnc5 := NB310_309.out; have hcz6_0 : w4.cell? ⟨gb309, 0, none⟩ = some (.int .i64 a0_0) := (blk_cell BK309.out 0).trans rfl; have hcz6_1 : w4.cell? ⟨gb309, 1, none⟩ = some (.int .i64 a0_1) := (blk_cell BK309.out 1).trans rfl; have hcz6_2 : w4.cell? ⟨gb309, 2, none⟩ = some (.int .i64 a0_2) := (blk_cell BK309.out 2).trans rfl; have hcz6_3 : w4.cell? ⟨gb309, 3, none⟩ = some (.int .i64 a0_3) := (blk_cell BK309.out 3).trans rfl; have hcz6_4 : w4.cell? ⟨gb309, 4, none⟩ = some (.int .i64 a0_4) := (blk_cell BK309.out 4).trans rfl; have hcz6_5 : w4.cell? ⟨gb309, 5, none⟩ = some (.string a0_5) := (blk_cell BK309.out 5).trans rfl; have hcz6_6 : w4.cell? ⟨gb309, 6, none⟩ = some (.string a0_6) := (blk_cell BK309.out 6).trans rfl; have hcz6_7 : w4.cell? ⟨gb309, 7, none⟩ = some (.string a0_7) := (blk_cell BK309.out 7).trans rfl; have hcz6_8 : w4.cell? ⟨gb309, 8, none⟩ = some (.string a0_8) := (blk_cell BK309.out 8).trans rfl; have hcz6_9 : w4.cell? ⟨gb309, 9, none⟩ = some (.int .i64 a0_9) := (blk_cell BK309.out 9).trans rfl; have hfz6_0 := blk_frozen BK309.out 0; have hfz6_1 := blk_frozen BK309.out 1; have hfz6_2 := blk_frozen BK309.out 2; have hfz6_3 := blk_frozen BK309.out 3; have hfz6_4 := blk_frozen BK309.out 4; have hfz6_5 := blk_frozen BK309.out 5; have hfz6_6 := blk_frozen BK309.out 6; have hfz6_7 := blk_frozen BK309.out 7; have hfz6_8 := blk_frozen BK309.out 8; have hfz6_9 := blk_frozen BK309.out 9; have hcz7_0 : w4.cell? ⟨gb310, 0, none⟩ = some (.int .i64 a1_0) := (blk_cell BK310.out 0).trans rfl; have hcz7_1 : w4.cell? ⟨gb310, 1, none⟩ = some (.int .i64 a1_1) := (blk_cell BK310.out 1).trans rfl; have hcz7_2 : w4.cell? ⟨gb310, 2, none⟩ = some (.int .i64 a1_2) := (blk_cell BK310.out 2).trans rfl; have hcz7_3 : w4.cell? ⟨gb310, 3, none⟩ = some (.int .i64 a1_3) := (blk_cell BK310.out 3).trans rfl; have hcz7_4 : w4.cell? ⟨gb310, 4, none⟩ = some (.int .i64 a1_4) := (blk_cell BK310.out 4).trans rfl; have hcz7_5 : w4.cell? ⟨gb310, 5, none⟩ = some (.string a1_5) := (blk_cell BK310.out 5).trans rfl; have hcz7_6 : w4.cell? ⟨gb310, 6, none⟩ = some (.string a1_6) := (blk_cell BK310.out 6).trans rfl; have hcz7_7 : w4.cell? ⟨gb310, 7, none⟩ = some (.string a1_7) := (blk_cell BK310.out 7).trans rfl; have hcz7_8 : w4.cell? ⟨gb310, 8, none⟩ = some (.string a1_8) := (blk_cell BK310.out 8).trans rfl; have hcz7_9 : w4.cell? ⟨gb310, 9, none⟩ = some (.int .i64 a1_9) := (blk_cell BK310.out 9).trans rfl; have hfz7_0 := blk_frozen BK310.out 0; have hfz7_1 := blk_frozen BK310.out 1; have hfz7_2 := blk_frozen BK310.out 2; have hfz7_3 := blk_frozen BK310.out 3; have hfz7_4 := blk_frozen BK310.out 4; have hfz7_5 := blk_frozen BK310.out 5; have hfz7_6 := blk_frozen BK310.out 6; have hfz7_7 := blk_frozen BK310.out 7; have hfz7_8 := blk_frozen BK310.out 8; have hfz7_9 := blk_frozen BK310.out 9))
  go_ret
  exact ⟨by first | rfl | (simp [errW_none, errW_some] <;> rfl) | (simp [*, errW_none, errW_some] <;> rfl), by repeat (first | (with_reducible first | exact HB.out | apply below_alloc | apply pw_below_drewN | apply below_drew1 | refine below_set ?_ GE309.out | refine below_set ?_ GE310.out) | exact HB.out)⟩

end Go.Proofs.YtnogfhhfklkbiaaDoor.H

namespace Go.Proofs.YtnogfhhfklkbiaaDoor.H
open Go.RowKit Go.Proofs.YtnogfhhfklkbiaaDoorW.PrintWords Go.Proofs.YtnogfhhfklkbiaaDoorW.PrintLast Go.Proofs.YtnogfhhfklkbiaaDoorW.PrintMore
attribute [local go_sem] max2_int min2_int max_two min_two max_three min_three max_four min_four   -- for this text's walks alone
set_option linter.unusedVariables false
set_option linter.unusedSimpArgs false

/-! ### slices_EqualFunc_Node: function 50 -/
-- for slices.EqualFunc[[]trammel/api.Node,[]trammel/api.Node,trammel/api.Node,trammel/api.Node]
/-- Are two nodes the same but for where they begin? -/
def sameNode (x y : S45) : Bool := x.f0 == y.f0 && (x.f1 == y.f1 && (x.f2 == y.f2 && (x.f3 == y.f3 && (x.f4 == y.f4 && (x.f5.toList == y.f5.toList && (x.f6.toList == y.f6.toList && (x.f7.toList == y.f7.toList && (x.f8.toList == y.f8.toList))))))))
def sameNodes : List S45 → List S45 → Bool
  | x :: xs, y :: ys => sameNode x y && sameNodes xs ys
  | [], [] => true
  | _, _ => false
theorem sameNodes_len : ∀ xs ys, xs.length ≠ ys.length → sameNodes xs ys = false
  | x :: xs, y :: ys, h => by
    rw [sameNodes, sameNodes_len xs ys (by simpa using h), Bool.and_false]
  | [], [], h => by simp at h
  | [], y :: ys, _ => rfl
  | x :: xs, [], _ => rfl
theorem hr_dropC {α : Type} {l : List α} {i : Nat} {c : α} (h : l[i]? = some c) : c :: l.drop (i + 1) = l.drop i := by
  obtain ⟨hi, rfl⟩ := List.getElem?_eq_some_iff.1 h
  exact (List.drop_eq_getElem_cons hi).symm
theorem rd_get (l : List S45) (i : Nat) (h : i < l.length) : l[i]? = some (rd_T45 l i) := by
  rw [List.getElem?_eq_getElem h, rd_T45, Int.toNat_natCast, List.getD_eq_getElem?_getD, List.getElem?_eq_getElem h]
  rfl
set_option maxRecDepth 100000 in
set_option maxHeartbeats 8000000 in
theorem equalFunc_calls (A0 : Option Addr) (c0 : Nat) (l0 : List S45) (A1 : Option Addr) (c1 : Nat) (l1 : List S45) (w : World) (hr0 : Kd.C k45 w A0 l0.length l0) (hr1 : Kd.C k45 w A1 l1.length l1) (hc0 : l0.length ≤ 9223372036854775807) :
    Calls Tryd.prog 50 #[.slice A0 l0.length c0, .slice A1 l1.length c1, .func (.func 51) #[] #[]] w fun e w' => e = .returned (.bool (sameNodes l0 l1)) ∧ Below w.heap.size w w' := by
  have HC0 := Aside0.mk hr0
  have HC1 := Aside0.mk hr1
  clear hr0 hr1
  by_cases hl : l0.length = l1.length
  · have b1 : ((l0.length : Int) != (l1.length : Int)) = false := by rw [hl]; simp
    have HL := Aside0.mk hl
    clear hl
    go_enter Tryd.func50, Tryd.ntmps50
    go_wp2_with fail
    go_loopw [17] (fun v17 wr => ∃ (i : Nat), v17 = .int .i64 i ∧ i ≤ l0.length ∧ Aside0 (sameNodes (l0.drop i) (l1.drop i) = sameNodes l0 l1) ∧ Aside0 (Below w.heap.size w wr)) (fun v17 _ => l0.length - (intOf v17).toNat)
    case atStart => exact ⟨0, rfl, Nat.zero_le _, ⟨rfl⟩, ⟨Below.refl _ _⟩⟩
    case round =>
      obtain ⟨i, rfl, hi, HG, HB⟩ := hrel
      by_cases hlt : i < l0.length
      · have hlt1 : i < l1.length := by have := HL.out; omega
        obtain ⟨ad, e157, hx0, hx1, hx2, hx3, hx4, hx5, hx6, hx7, hx8, hx9⟩ := at_T45 (Kd.C_below HC0.out HB.out) i (by omega) (by omega)
        cases e157
        obtain ⟨ad1, e158, hy0, hy1, hy2, hy3, hy4, hy5, hy6, hy7, hy8, hy9⟩ := at_T45 (Kd.C_below HC1.out HB.out) i (by omega) (by omega)
        cases e158
        have hg := HG.out
        rw [← hr_dropC (rd_get l0 i hlt), ← hr_dropC (rd_get l1 i hlt1), sameNodes] at hg
        rw [Int.toNat_natCast] at hx0 hx1 hx2 hx3 hx4 hx5 hx6 hx7 hx8 hx9 hy0 hy1 hy2 hy3 hy4 hy5 hy6 hy7 hy8 hy9
        generalize rd_T45 l0 i = x at *
        generalize rd_T45 l1 i = y at *
        have HG2 := Aside0.mk hg
        have ha : (ad.add (i * 10)).block < wr.heap.size := World.block_lt_of_cell? wr (ad.add (i * 10)) hx0
        have hb : (ad1.add (i * 10)).block < wr.heap.size := World.block_lt_of_cell? wr (ad1.add (i * 10)) hy0
        have HS := Aside0.mk (show tree_Same_1.f x.f0 x.f1 x.f2 x.f3 x.f4 x.f5 x.f6 x.f7 x.f8 x.f9 y.f0 y.f1 y.f2 y.f3 y.f4 y.f5 y.f6 y.f7 y.f8 y.f9 = some (sameNode x y) from rfl)
        clear hg HG
        cases hs : sameNode x y
        · rw [hs] at HS HG2
          have hr : sameNodes l0 l1 = false := by rw [← HG2.out]; rfl
          have HR := Aside0.mk hr
          clear hs hr HG2
          go_wp2_with (go_at_call 51; (with_reducible refine (tree_Same_1.calls _ _ _ _ _ _ _ _ _ _ _ _ _ _ _ _ _ _ _ _ false _ HS.out).mono ?_); rintro e w3 ⟨rfl, hb3⟩; have HB3 := Aside0.mk hb3; clear hb3)
          go_ret
          exact ⟨by rw [HR.out]; rfl, HB.out.trans ((Below.alloc (Below.alloc (Below.refl _ _) HB.out.size _) (by simp; have := HB.out.size; omega) _).trans (HB3.out.mono (by simp; have := HB.out.size; omega)))⟩
        · rw [hs] at HS HG2
          clear hs
          go_wp2_with (go_at_call 51; (with_reducible refine (tree_Same_1.calls _ _ _ _ _ _ _ _ _ _ _ _ _ _ _ _ _ _ _ _ true _ HS.out).mono ?_); rintro e w3 ⟨rfl, hb3⟩; have HB3 := Aside0.mk hb3; clear hb3)
          go_roundw
          case rel => exact ⟨i + 1, by go_num, by omega, ⟨HG2.out⟩, ⟨HB.out.trans ((Below.alloc (Below.alloc (Below.refl _ _) HB.out.size _) (by simp; have := HB.out.size; omega) _).trans (HB3.out.mono (by simp; have := HB.out.size; omega)))⟩⟩
          case measure => simp [intOf]; omega
      · have hg := HG.out
        have := HL.out
        rw [List.drop_eq_nil_of_le (by omega), List.drop_eq_nil_of_le (by omega)] at hg
        have hr : sameNodes l0 l1 = true := by rw [← hg]; rfl
        have HR := Aside0.mk hr
        clear hg hr HG this
        go_wp2
        go_ret
        exact ⟨by rw [HR.out]; rfl, HB.out⟩
  · have b1 : ((l0.length : Int) != (l1.length : Int)) = true := by rw [bne_iff_ne]; omega
    rw [sameNodes_len _ _ hl]
    clear hl
    go_enter Tryd.func50, Tryd.ntmps50
    go_wp2
    go_ret
    exact ⟨rfl, Below.refl _ _⟩


end Go.Proofs.YtnogfhhfklkbiaaDoor.H

namespace Go.Proofs.YtnogfhhfklkbiaaDoor.H
open Go.RowKit Go.Proofs.YtnogfhhfklkbiaaDoorW.PrintWords Go.Proofs.YtnogfhhfklkbiaaDoorW.PrintLast Go.Proofs.YtnogfhhfklkbiaaDoorW.PrintMore
attribute [local go_sem] max2_int min2_int max_two min_two max_three min_three max_four min_four   -- for this text's walks alone
set_option linter.unusedVariables false
set_option linter.unusedSimpArgs false

/-! ### tree_Same: function 22 -/
-- making
def tree_Same.f (l0 l1 : List S45) : Option Bool := if l0.length ≤ 9223372036854775807 then some (sameNodes l0 l1) else none
set_option maxRecDepth 100000 in
set_option maxHeartbeats 8000000 in
theorem tree_Same.calls (A0 : Option Addr) (c0 : Nat) (l0 : List (S45)) (A1 : Option Addr) (c1 : Nat) (l1 : List (S45)) (r : Bool) (w : World) (hr0 : Kd.C k45 w A0 l0.length l0) (hc0 : l0.length ≤ c0) (hr1 : Kd.C k45 w A1 l1.length l1) (hc1 : l1.length ≤ c1) (h : tree_Same.f l0 l1 = some r) :
    Calls Tryd.prog 22 #[.slice A0 l0.length c0, .slice A1 l1.length c1] w fun e w' => e = .returned (.bool r) ∧ Below w.heap.size w w' := by
  unfold tree_Same.f at h
  split at h
  · rename_i hl
    obtain rfl := Option.some.inj h
    have C := Aside0.mk (equalFunc_calls A0 c0 l0 A1 c1 l1 w hr0 hr1 hl)
    clear hr0 hr1 hc0 hc1 h
    go_enter Tryd.func22, Tryd.ntmps22
    go_wp2_with (go_at_call 50; refine C.out.mono ?_; rintro e w3 ⟨rfl, hb3⟩; have HB3 := Aside0.mk hb3; clear hb3)
    go_ret
    exact ⟨rfl, HB3.out⟩
  · cases h


end Go.Proofs.YtnogfhhfklkbiaaDoor.H

set_option linter.unusedVariables false
set_option linter.unusedSimpArgs false
namespace Go.Proofs.YtnogfhhfklkbiaaDoor.H
open Go.RowKit Go.Proofs.YtnogfhhfklkbiaaDoorW.PrintWords Go.Proofs.YtnogfhhfklkbiaaDoorW.PrintLast Go.Proofs.YtnogfhhfklkbiaaDoorW.PrintMore

/-- The greatest number of its own that a node of a kind may have. -/
def mostN (kind : Int) : Int := if kind = 1 then 1073741823 else if kind = 2 then 1 else if kind = 8 then 5 else -1
theorem most_is (kind : Int) : tree_most.f kind = some (mostN kind) := by
  unfold tree_most.f mostN
  repeat' split
  all_goals first | rfl | omega
/-- May a node be? -/
def mayS (x : S45) (named : Bool) : Bool :=
  decide (0 ≤ x.f0) && (decide (x.f0 ≤ 10) && (decide (0 ≤ x.f9) && (decide (x.f9 ≤ 4096) &&
    ((decide (mostN x.f0 < 0) || (decide (0 ≤ x.f4) && decide (x.f4 ≤ mostN x.f0))) &&
      ((!named || (namesOf x).all (fun s => nm s.data.toList)) &&
        (let y := noKids (if named = true then noNames x else x)
         bareNode (if 0 ≤ mostN x.f0 ∨ (named = false ∧ (x.f0 = 0 ∨ x.f0 = 9 ∨ x.f0 = 10)) then noNum y else y)))))))
theorem goN_is (k : Nat) (hk : 40 ≤ k) : ∀ ss, goN k ss = some (ss.all fun s => nm s.data.toList)
  | [] => rfl
  | s :: ss => by
    rw [goN, nameMay_is s k hk, Option.bind_some, goN_is k hk ss, List.all_cons]
    cases nm s.data.toList <;> simp
theorem may_is (x : S45) (named : Bool) (k : Nat) (hk : 40 ≤ k) : tree_may.f k x.f0 x.f1 x.f2 x.f3 x.f4 x.f5 x.f6 x.f7 x.f8 x.f9 named = some (mayS x named) := by
  have hx : (⟨x.f0, x.f1, x.f2, x.f3, x.f4, x.f5, x.f6, x.f7, x.f8, x.f9⟩ : S45) = x := rfl
  unfold tree_may.f mayS
  rw [hx, most_is, goN_is k hk]
  by_cases h1 : x.f0 < 0
  · rw [if_pos h1]; simp [show ¬ 0 ≤ x.f0 by omega]
  · rw [if_neg h1]
    by_cases h2 : x.f0 > 10
    · rw [if_pos h2]; simp [show ¬ x.f0 ≤ 10 by omega]
    · rw [if_neg h2]
      by_cases h3 : x.f9 < 0
      · rw [if_pos h3]; simp [show ¬ 0 ≤ x.f9 by omega]
      · rw [if_neg h3]
        by_cases h4 : x.f9 > 4096
        · rw [if_pos h4]; simp [show ¬ x.f9 ≤ 4096 by omega]
        · rw [if_neg h4]
          simp only [Option.bind_some, show 0 ≤ x.f0 by omega, show x.f0 ≤ 10 by omega, show 0 ≤ x.f9 by omega, show x.f9 ≤ 4096 by omega, decide_true, Bool.true_and]
          by_cases h5 : 0 ≤ mostN x.f0 ∧ (x.f4 < 0 ∨ mostN x.f0 < x.f4)
          · rw [if_pos h5]
            have e : (decide (mostN x.f0 < 0) || (decide (0 ≤ x.f4) && decide (x.f4 ≤ mostN x.f0))) = false := by
              rw [Bool.or_eq_false_iff]
              refine ⟨by simp; omega, ?_⟩
              rw [Bool.and_eq_false_iff]
              rcases h5.2 with h | h
              · left; simp; omega
              · right; simp; omega
            rw [e, Bool.false_and]
          · rw [if_neg h5]
            have e : (decide (mostN x.f0 < 0) || (decide (0 ≤ x.f4) && decide (x.f4 ≤ mostN x.f0))) = true := by
              by_cases q : mostN x.f0 < 0
              · simp [q]
              · have : 0 ≤ x.f4 ∧ x.f4 ≤ mostN x.f0 := by omega
                simp [this.1, this.2]
            rw [e, Bool.true_and]
            cases named
            · simp
            · simp only [if_true, Bool.not_true, Bool.false_or]
              cases (namesOf x).all fun s => nm s.data.toList
              · simp
              · simp
/-- Where a node's part begins; -1: its children don't stand as they must. -/
def beginS (l : List S45) (a : Int) : Int := match tree_Begin.f (l.length + 1) l a with
  | some r => r
  | none => -1
/-- Beginning, with more rounds than there are nodes ahead, is told; it stands no further on. -/
theorem begin_some (l : List S45) : ∀ (n : Nat) (a : Int) (k : Nat), 0 ≤ a → a < l.length → a.toNat = n → n < k → l.length ≤ 1000000000000000 → ∃ r, tree_Begin.f k l a = some r ∧ r ≤ a ∧ -1 ≤ r := by
  intro n
  induction n using Nat.strongRecOn with
  | _ n ih =>
    intro a k h0 h1 hn hk hl
    obtain ⟨k, rfl⟩ : ∃ m, k = m + 1 := ⟨k - 1, by omega⟩
    rw [tree_Begin.f, if_pos h0, if_pos h1]
    have go : ∀ (cs : List Int) (b : Int), b ≤ a → 0 ≤ b → ∃ r, goB (tree_Begin.f k l) cs b = some r ∧ r ≤ b ∧ -1 ≤ r := by
      intro cs
      induction cs with
      | nil => exact fun b _ hb0 => ⟨b, rfl, Int.le_refl _, by omega⟩
      | cons c cs ihc =>
        intro b hb hb0
        unfold goB
        have hw : wrap64 (b - 1) = b - 1 := by unfold wrap64; omega
        rw [hw]
        by_cases g : b - 1 < 0
        · exact ⟨-1, if_pos g, by omega, Int.le_refl _⟩
        · rw [if_neg g]
          by_cases g2 : c = b - 1
          · rw [if_pos g2]
            obtain ⟨r, hr, hr1, hr2⟩ := ih (b - 1).toNat (by omega) (b - 1) k (by omega) (by omega) rfl (by omega) hl
            rw [hr, Option.bind_some]
            by_cases g3 : r < 0
            · exact ⟨-1, if_pos g3, by omega, Int.le_refl _⟩
            · rw [if_neg g3]
              obtain ⟨q, hq, hq1, hq2⟩ := ihc r (by omega) (by omega)
              exact ⟨q, hq, by omega, hq2⟩
          · exact ⟨-1, if_neg g2, by omega, Int.le_refl _⟩
    exact go _ a (Int.le_refl _) h0
theorem begin_is (l : List S45) (a : Int) (k : Nat) (h0 : 0 ≤ a) (h1 : a < l.length) (hk : l.length < k) (hl : l.length ≤ 1000000000000000) : tree_Begin.f k l a = some (beginS l a) := by
  obtain ⟨r, hr, _⟩ := begin_some l a.toNat a (l.length + 1) h0 h1 rfl (by omega) hl
  have := at_rounds (tree_Begin.mono l a) (show l.length + 1 ≤ k by omega) hr
  rw [this]
  unfold beginS
  rw [hr]
theorem begin_range (l : List S45) (a : Int) (h0 : 0 ≤ a) (h1 : a < l.length) (hl : l.length ≤ 1000000000000000) : beginS l a ≤ a ∧ -1 ≤ beginS l a := by
  obtain ⟨r, hr, h2, h3⟩ := begin_some l a.toNat a (l.length + 1) h0 h1 rfl (by omega) hl
  unfold beginS
  rw [hr]
  exact ⟨h2, h3⟩
/-- Do nodes make a tree? -/
def shapedS (l : List S45) (named : Bool) : Bool := decide (1 ≤ l.length) && (decide (l.length ≤ 512) && (l.all (fun x => mayS x named) && (beginS l ((l.length : Int) - 1) == 0)))
theorem rd_at (l : List S45) (i : Nat) (h : i < l.length) : rd_T45 l (i : Int) = l[i] := by
  rw [rd_T45, Int.toNat_natCast, List.getD_eq_getElem?_getD, List.getElem?_eq_getElem h]
  rfl
theorem shaped_loop (l : List S45) (named : Bool) (hl : l.length ≤ 512) (h1 : 1 ≤ l.length) : ∀ (d i k : Nat), l.length - i = d → i ≤ l.length → d + 600 ≤ k →
    tree_Shaped.l0 k l named l (l.length : Int) (i : Int) = some ((l.drop i).all (fun x => mayS x named) && (beginS l ((l.length : Int) - 1) == 0)) := by
  intro d
  induction d with
  | zero =>
    intro i k hd hi hk
    obtain ⟨k, rfl⟩ : ∃ m, k = m + 1 := ⟨k - 1, by omega⟩
    simp only [tree_Shaped.l0]
    rw [if_neg (by omega), show wrap64 ((l.length : Int) - 1) = (l.length : Int) - 1 from by unfold wrap64; omega, begin_is l _ k (by omega) (by omega) (by omega) (by omega), List.drop_eq_nil_of_le (by omega)]
    simp
  | succ d ih =>
    intro i k hd hi hk
    obtain ⟨k, rfl⟩ : ∃ m, k = m + 1 := ⟨k - 1, by omega⟩
    have hlt : i < l.length := by omega
    simp only [tree_Shaped.l0]
    rw [if_pos (by omega), if_pos (by omega), if_pos (by omega), rd_at l i hlt, may_is l[i] named k (by omega), List.drop_eq_getElem_cons hlt, List.all_cons]
    simp only [Option.bind_some]
    cases hm : mayS l[i] named
    · simp
    · simp only [if_true, Bool.true_and]
      rw [wrapS (by omega) (by omega), show ((i : Int) + 1) = ((i + 1 : Nat) : Int) from by omega]
      exact ih (i + 1) k (by omega) (by omega) (by omega)
theorem shaped_is (l : List S45) (named : Bool) (k : Nat) (hk : 1200 ≤ k) : tree_Shaped.f k l named = some (shapedS l named) := by
  obtain ⟨k, rfl⟩ : ∃ m, k = m + 1 := ⟨k - 1, by omega⟩
  unfold tree_Shaped.f shapedS
  by_cases h1 : (l.length : Int) < 1
  · rw [if_pos h1]
    simp [tree_Shaped.j0, show ¬ 1 ≤ l.length by omega]
  · rw [if_neg h1]
    simp only [tree_Shaped.j0]
    by_cases h2 : (l.length : Int) > 512
    · rw [if_pos (by simpa using h2)]
      simp [show ¬ l.length ≤ 512 by omega]
    · rw [if_neg (by simpa using h2)]
      have := shaped_loop l named (by omega) (by omega) l.length 0 k rfl (Nat.zero_le _) (by omega)
      rw [show ((0 : Nat) : Int) = 0 from rfl] at this
      rw [this]
      simp [show 1 ≤ l.length by omega, show l.length ≤ 512 by omega]
/-- May operations be? -/
def opMayS (o : S48) : Bool := nm o.f0.data.toList && ((o.f1 == 0 || o.f1 == 1) && (o.f2 == 0 || o.f2 == 1))
def opsMayS (os : List S48) : Bool := decide (os.length ≤ 4) && os.all opMayS
theorem bad_is (o : S48) (k : Nat) (hk : 40 ≤ k) : tree_OpsMay_1.f k o.f0 o.f1 o.f2 = some (!opMayS o) := by
  unfold tree_OpsMay_1.f opMayS
  rw [nameMay_is o.f0 k hk]
  simp only [Option.bind_some, tree_base.f]
  cases nm o.f0.data.toList
  · simp
  · by_cases a : o.f1 = 0 <;> by_cases b : o.f1 = 1 <;> by_cases c : o.f2 = 0 <;> by_cases d : o.f2 = 1 <;> simp [a, b, c, d]
theorem goIdx_is (k : Nat) (hk : 40 ≤ k) : ∀ (os : List S48) (i : Nat), ∃ r, goIdx k os i = some r ∧ (0 ≤ r ↔ os.all opMayS = false)
  | [], i => ⟨-1, rfl, by simp⟩
  | o :: os, i => by
    obtain ⟨r, hr, hiff⟩ := goIdx_is k hk os (i + 1)
    rw [goIdx, bad_is o k hk, Option.bind_some, List.all_cons]
    cases opMayS o
    · exact ⟨(i : Int), by simp, by simp⟩
    · exact ⟨r, by simpa using hr, by simpa using hiff⟩
theorem opsMay_is (os : List S48) (k : Nat) (hk : 40 ≤ k) : tree_OpsMay.f k os = some (opsMayS os) := by
  unfold tree_OpsMay.f opsMayS
  by_cases h : os.length ≤ 4
  · obtain ⟨r, hr, hiff⟩ := goIdx_is k hk os 0
    rw [if_pos h, hr, Option.bind_some]
    simp only [h, decide_true, Bool.true_and, Option.some.injEq]
    cases ha : os.all opMayS
    · have := hiff.2 ha
      simp; omega
    · have : ¬ 0 ≤ r := fun hh => by rw [hiff.1 hh] at ha; cases ha
      simp; omega
  · rw [if_neg h]
    simp [h]
def treeMayS (os : List S48) (l : List S45) : Bool := opsMayS os && shapedS l true
theorem treeMay_is (os : List S48) (l : List S45) (k : Nat) (hk : 1200 ≤ k) : tree_May.f k os l = some (treeMayS os l) := by
  unfold tree_May.f treeMayS
  rw [opsMay_is os k (by omega), shaped_is l true k hk]
  cases opsMayS os <;> simp
def thereS (l : List S45) (a : Int) : Bool := (shapedS l true || shapedS l false) && (decide (0 ≤ a) && decide (a < l.length))
theorem there_is (l : List S45) (a : Int) (k : Nat) (hk : 1200 ≤ k) : tree_there.f k l a = some (thereS l a) := by
  unfold tree_there.f thereS
  rw [shaped_is l true k hk, shaped_is l false k hk]
  cases shapedS l true <;> cases shapedS l false <;> by_cases h : 0 ≤ a <;> simp [h]
end Go.Proofs.YtnogfhhfklkbiaaDoor.H
