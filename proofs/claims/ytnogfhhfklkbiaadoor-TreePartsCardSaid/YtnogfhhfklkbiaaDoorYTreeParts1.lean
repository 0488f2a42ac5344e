/- Several texts in one: contracts of functions of the program, and what they lean on. In part written by a program of this session over the kit's print, in part by hand. -/
import Derived.Test.YtnogfhhfklkbiaaDoorT0
import Derived.Test.YtnogfhhfklkbiaaDoorT3
import Derived.Test.YtnogfhhfklkbiaaDoorT5
import Derived.Test.YtnogfhhfklkbiaaDoorYTreeParts0
namespace Go.Proofs.YtnogfhhfklkbiaaDoor.H
open Go.RowKit Go.Proofs.YtnogfhhfklkbiaaDoorW.PrintWords Go.Proofs.YtnogfhhfklkbiaaDoorW.PrintLast Go.Proofs.YtnogfhhfklkbiaaDoorW.PrintMore
attribute [local go_sem] max2_int min2_int max_two min_two max_three min_three max_four min_four   -- for this text's walks alone
set_option linter.unusedVariables false
set_option linter.unusedSimpArgs false

attribute [local go_sem high] eqA45
def trammellaw3_TreeParts.T16 : Bool × List (List Nat × List Nat) := (true, [([], []), ([], []), ([0, 1], [0, 1]), ([2], [2]), ([], []), ([4], [4]), ([], []), ([6], [6]), ([], []), ([8], [8]), ([7, 9], [7, 9]), ([], []), ([10, 11], [10, 11]), ([5, 12], [5, 12]), ([13], [13]), ([], []), ([], []), ([15, 3, 0, 1, 2, 3, 15, 16], [3, 15]), ([16, 14, 17, 0, 1, 2, 3, 4, 5, 6, 7, 8, 9, 10, 11, 12, 13, 14, 15, 16, 17], [14, 16])])
def trammellaw3_TreeParts.B16 : List Nat := [0, 0, 3, 7, 0, 16, 0, 64, 0, 256, 960, 0, 4032, 8176, 16368, 0, 0, 98319, 262143]
theorem trammellaw3_TreeParts.tab16 : rtab .any (opsOf Tryd.f4 16) = trammellaw3_TreeParts.T16 := by kernel_rfl
theorem trammellaw3_TreeParts.bits16 : waitsOk trammellaw3_TreeParts.T16.2 trammellaw3_TreeParts.B16 = true := by kernel_rfl
def set10 (W : World) (g : Nat) (x : S45) : World := ((((((((((W.setCell ⟨g, 0, none⟩ (.int .i64 (x).f0)).setCell ⟨g, 1, none⟩ (.int .i64 (x).f1)).setCell ⟨g, 2, none⟩ (.int .i64 (x).f2)).setCell ⟨g, 3, none⟩ (.int .i64 (x).f3)).setCell ⟨g, 4, none⟩ (.int .i64 (x).f4)).setCell ⟨g, 5, none⟩ (.string (x).f5)).setCell ⟨g, 6, none⟩ (.string (x).f6)).setCell ⟨g, 7, none⟩ (.string (x).f7)).setCell ⟨g, 8, none⟩ (.string (x).f8)).setCell ⟨g, 9, none⟩ (.int .i64 (x).f9))
theorem hide_ {a : Addr} {v : Value} {W : World} (h : W.cell? a = some v) : ∃ w', W = w' := ⟨W, rfl⟩
theorem set10_blk {W : World} {g : Nat} {x : S45} {c0 c1 c2 c3 c4 c5 c6 c7 c8 c9 : Value} (h : W.heap[g]? = some (.cells #[c0, c1, c2, c3, c4, c5, c6, c7, c8, c9] 45 (0, 0))) : (set10 W g x).heap[g]? = some (.cells #[.int .i64 (x).f0, .int .i64 (x).f1, .int .i64 (x).f2, .int .i64 (x).f3, .int .i64 (x).f4, .string (x).f5, .string (x).f6, .string (x).f7, .string (x).f8, .int .i64 (x).f9] 45 (0, 0)) := by
  unfold set10
  have h1 : (W.setCell ⟨g, 0, none⟩ (.int .i64 (x).f0)).heap[g]? = some (.cells #[.int .i64 (x).f0, c1, c2, c3, c4, c5, c6, c7, c8, c9] 45 (0, 0)) := blk_put h 0 _ rfl
  have h2 : ((W.setCell ⟨g, 0, none⟩ (.int .i64 (x).f0)).setCell ⟨g, 1, none⟩ (.int .i64 (x).f1)).heap[g]? = some (.cells #[.int .i64 (x).f0, .int .i64 (x).f1, c2, c3, c4, c5, c6, c7, c8, c9] 45 (0, 0)) := blk_put h1 1 _ rfl
  have h3 : (((W.setCell ⟨g, 0, none⟩ (.int .i64 (x).f0)).setCell ⟨g, 1, none⟩ (.int .i64 (x).f1)).setCell ⟨g, 2, none⟩ (.int .i64 (x).f2)).heap[g]? = some (.cells #[.int .i64 (x).f0, .int .i64 (x).f1, .int .i64 (x).f2, c3, c4, c5, c6, c7, c8, c9] 45 (0, 0)) := blk_put h2 2 _ rfl
  have h4 : ((((W.setCell ⟨g, 0, none⟩ (.int .i64 (x).f0)).setCell ⟨g, 1, none⟩ (.int .i64 (x).f1)).setCell ⟨g, 2, none⟩ (.int .i64 (x).f2)).setCell ⟨g, 3, none⟩ (.int .i64 (x).f3)).heap[g]? = some (.cells #[.int .i64 (x).f0, .int .i64 (x).f1, .int .i64 (x).f2, .int .i64 (x).f3, c4, c5, c6, c7, c8, c9] 45 (0, 0)) := blk_put h3 3 _ rfl
  have h5 : (((((W.setCell ⟨g, 0, none⟩ (.int .i64 (x).f0)).setCell ⟨g, 1, none⟩ (.int .i64 (x).f1)).setCell ⟨g, 2, none⟩ (.int .i64 (x).f2)).setCell ⟨g, 3, none⟩ (.int .i64 (x).f3)).setCell ⟨g, 4, none⟩ (.int .i64 (x).f4)).heap[g]? = some (.cells #[.int .i64 (x).f0, .int .i64 (x).f1, .int .i64 (x).f2, .int .i64 (x).f3, .int .i64 (x).f4, c5, c6, c7, c8, c9] 45 (0, 0)) := blk_put h4 4 _ rfl
  have h6 : ((((((W.setCell ⟨g, 0, none⟩ (.int .i64 (x).f0)).setCell ⟨g, 1, none⟩ (.int .i64 (x).f1)).setCell ⟨g, 2, none⟩ (.int .i64 (x).f2)).setCell ⟨g, 3, none⟩ (.int .i64 (x).f3)).setCell ⟨g, 4, none⟩ (.int .i64 (x).f4)).setCell ⟨g, 5, none⟩ (.string (x).f5)).heap[g]? = some (.cells #[.int .i64 (x).f0, .int .i64 (x).f1, .int .i64 (x).f2, .int .i64 (x).f3, .int .i64 (x).f4, .string (x).f5, c6, c7, c8, c9] 45 (0, 0)) := blk_put h5 5 _ rfl
  have h7 : (((((((W.setCell ⟨g, 0, none⟩ (.int .i64 (x).f0)).setCell ⟨g, 1, none⟩ (.int .i64 (x).f1)).setCell ⟨g, 2, none⟩ (.int .i64 (x).f2)).setCell ⟨g, 3, none⟩ (.int .i64 (x).f3)).setCell ⟨g, 4, none⟩ (.int .i64 (x).f4)).setCell ⟨g, 5, none⟩ (.string (x).f5)).setCell ⟨g, 6, none⟩ (.string (x).f6)).heap[g]? = some (.cells #[.int .i64 (x).f0, .int .i64 (x).f1, .int .i64 (x).f2, .int .i64 (x).f3, .int .i64 (x).f4, .string (x).f5, .string (x).f6, c7, c8, c9] 45 (0, 0)) := blk_put h6 6 _ rfl
  have h8 : ((((((((W.setCell ⟨g, 0, none⟩ (.int .i64 (x).f0)).setCell ⟨g, 1, none⟩ (.int .i64 (x).f1)).setCell ⟨g, 2, none⟩ (.int .i64 (x).f2)).setCell ⟨g, 3, none⟩ (.int .i64 (x).f3)).setCell ⟨g, 4, none⟩ (.int .i64 (x).f4)).setCell ⟨g, 5, none⟩ (.string (x).f5)).setCell ⟨g, 6, none⟩ (.string (x).f6)).setCell ⟨g, 7, none⟩ (.string (x).f7)).heap[g]? = some (.cells #[.int .i64 (x).f0, .int .i64 (x).f1, .int .i64 (x).f2, .int .i64 (x).f3, .int .i64 (x).f4, .string (x).f5, .string (x).f6, .string (x).f7, c8, c9] 45 (0, 0)) := blk_put h7 7 _ rfl
  have h9 : (((((((((W.setCell ⟨g, 0, none⟩ (.int .i64 (x).f0)).setCell ⟨g, 1, none⟩ (.int .i64 (x).f1)).setCell ⟨g, 2, none⟩ (.int .i64 (x).f2)).setCell ⟨g, 3, none⟩ (.int .i64 (x).f3)).setCell ⟨g, 4, none⟩ (.int .i64 (x).f4)).setCell ⟨g, 5, none⟩ (.string (x).f5)).setCell ⟨g, 6, none⟩ (.string (x).f6)).setCell ⟨g, 7, none⟩ (.string (x).f7)).setCell ⟨g, 8, none⟩ (.string (x).f8)).heap[g]? = some (.cells #[.int .i64 (x).f0, .int .i64 (x).f1, .int .i64 (x).f2, .int .i64 (x).f3, .int .i64 (x).f4, .string (x).f5, .string (x).f6, .string (x).f7, .string (x).f8, c9] 45 (0, 0)) := blk_put h8 8 _ rfl
  have h10 : ((((((((((W.setCell ⟨g, 0, none⟩ (.int .i64 (x).f0)).setCell ⟨g, 1, none⟩ (.int .i64 (x).f1)).setCell ⟨g, 2, none⟩ (.int .i64 (x).f2)).setCell ⟨g, 3, none⟩ (.int .i64 (x).f3)).setCell ⟨g, 4, none⟩ (.int .i64 (x).f4)).setCell ⟨g, 5, none⟩ (.string (x).f5)).setCell ⟨g, 6, none⟩ (.string (x).f6)).setCell ⟨g, 7, none⟩ (.string (x).f7)).setCell ⟨g, 8, none⟩ (.string (x).f8)).setCell ⟨g, 9, none⟩ (.int .i64 (x).f9)).heap[g]? = some (.cells #[.int .i64 (x).f0, .int .i64 (x).f1, .int .i64 (x).f2, .int .i64 (x).f3, .int .i64 (x).f4, .string (x).f5, .string (x).f6, .string (x).f7, .string (x).f8, .int .i64 (x).f9] 45 (0, 0)) := blk_put h9 9 _ rfl
  exact h10
theorem set10_far {W : World} {g k : Nat} {x : S45} {cs : Array Value} {t : TypeId} (h : W.heap[k]? = some (.cells cs t (0, 0))) (hne : k ≠ g) : (set10 W g x).heap[k]? = some (.cells cs t (0, 0)) := by
  unfold set10
  exact (blk_far (p := ⟨g, 9, none⟩) (blk_far (p := ⟨g, 8, none⟩) (blk_far (p := ⟨g, 7, none⟩) (blk_far (p := ⟨g, 6, none⟩) (blk_far (p := ⟨g, 5, none⟩) (blk_far (p := ⟨g, 4, none⟩) (blk_far (p := ⟨g, 3, none⟩) (blk_far (p := ⟨g, 2, none⟩) (blk_far (p := ⟨g, 1, none⟩) (blk_far (p := ⟨g, 0, none⟩) h hne (.int .i64 (x).f0)) hne (.int .i64 (x).f1)) hne (.int .i64 (x).f2)) hne (.int .i64 (x).f3)) hne (.int .i64 (x).f4)) hne (.string (x).f5)) hne (.string (x).f6)) hne (.string (x).f7)) hne (.string (x).f8)) hne (.int .i64 (x).f9))
theorem set10_R {α : Type} {d : Kd α} {e : TypeId} {W : World} {base g : Nat} {x : S45} {ok : Nat → Prop} {v : Value} {xs : List α} (h : d.R e W base ok v xs) (hok : ∀ k, ok k → k ≠ g) : d.R e (set10 W g x) base ok v xs := by
  unfold set10
  exact (Kd.R_far (p := ⟨g, 9, none⟩) (Kd.R_far (p := ⟨g, 8, none⟩) (Kd.R_far (p := ⟨g, 7, none⟩) (Kd.R_far (p := ⟨g, 6, none⟩) (Kd.R_far (p := ⟨g, 5, none⟩) (Kd.R_far (p := ⟨g, 4, none⟩) (Kd.R_far (p := ⟨g, 3, none⟩) (Kd.R_far (p := ⟨g, 2, none⟩) (Kd.R_far (p := ⟨g, 1, none⟩) (Kd.R_far (p := ⟨g, 0, none⟩) h hok (.int .i64 (x).f0)) hok (.int .i64 (x).f1)) hok (.int .i64 (x).f2)) hok (.int .i64 (x).f3)) hok (.int .i64 (x).f4)) hok (.string (x).f5)) hok (.string (x).f6)) hok (.string (x).f7)) hok (.string (x).f8)) hok (.int .i64 (x).f9))
theorem set10_below {w W : World} {g : Nat} {x : S45} (h : Below w.heap.size w W) (hg : w.heap.size ≤ g) : Below w.heap.size w (set10 W g x) := by
  unfold set10
  exact (below_set (below_set (below_set (below_set (below_set (below_set (below_set (below_set (below_set (below_set h hg) hg) hg) hg) hg) hg) hg) hg) hg) hg)
set_option maxHeartbeats 8000000 in
set_option maxRecDepth 100000 in
theorem trammellaw3_TreeParts.callsT (k : Nat) (A0_0 : Option Addr) (c0_0 : Nat) (l0_0 : List (S48)) (A0_1 : Option Addr) (c0_1 : Nat) (l0_1 : List (S45)) (a1 : Int) (r : Bool) (w : World) (hr0_0 : Kd.C k48 w A0_0 l0_0.length l0_0) (hc0_0 : l0_0.length ≤ c0_0) (hr0_1 : Kd.C k45 w A0_1 l0_1.length l0_1) (hc0_1 : l0_1.length ≤ c0_1) (htrue : r = true) (h : trammellaw3_TreeParts.f k l0_0 l0_1 a1 = some r) :
    Calls Tryd.prog 4 #[.agg #[.slice A0_0 l0_0.length c0_0, .slice A0_1 l0_1.length c0_1], .int .i64 a1] w fun e w' => e = .returned (.bool r) ∧ Below w.heap.size w w' := by
  have HTRUE := Aside0.mk htrue
  clear htrue
  have hu25 := Tryd.underlying25
  have hu45 := Tryd.underlying45
  have HR0_0 := Aside0.mk hr0_0
  have HC0_0 := Aside0.mk hc0_0
  clear hr0_0 hc0_0
  have HR0_1 := Aside0.mk hr0_1
  have HC0_1 := Aside0.mk hc0_1
  clear hr0_1 hc0_1
  have HB := Aside0.mk (Below.refl w.heap.size w)
  have H := h
  clear h
  unfold trammellaw3_TreeParts.f at H
  replace H := Option.bind_eq_some_iff.mp H
  obtain ⟨t326, A30, H⟩ := H
  (try dsimp only at H)
  have A3 := Aside0.mk A30
  clear A30
  by_cases c4 : t326 = true
  · subst c4
    have H1 := (if_pos rfl).symm.trans H
    clear H
    have H := H1
    clear H1
    have HC5 := Aside0.mk H
    clear H
    go_enter Tryd.func4, Tryd.ntmps4
    go_upto_region 3 with (first | ((with_reducible refine gate_dst (N := 2) rfl ?_); (try (refine gate_guard (by rfl) ?_; dsimp only)); refine box_event ?hg (N := 2) ?hd (cs := #[.slice A0_0 l0_0.length c0_0, .slice A0_1 l0_1.length c0_1]) (t := 25) ?hr ?_; (case hd => rfl); (case hg => rfl); (case hr => first | (go_simp; done) | (go_simp; rfl)); intro gb325 hg w6 hbox hb; have n0_ := Aside0.mk (below_step (by repeat (first | (with_reducible first | exact HB.out | apply below_alloc | apply pw_below_drewN | apply below_drew1) | exact HB.out)) hb); have n1_ := Aside0.mk (hbox); have n2_ := Aside0.mk ((by rw [hg]; exact (below_size (by repeat (first | (with_reducible first | exact HB.out | apply below_alloc | apply pw_below_drewN | apply below_drew1) | exact HB.out))) : w.heap.size ≤ gb325)); have n3_ := Aside0.mk ((by rw [hg]; exact (below_size (by repeat (first | (with_reducible first | exact HB.out | apply below_alloc | apply pw_below_drewN | apply below_drew1) | exact HB.out))) : w.heap.size ≤ gb325)); clear HB; have HB := n0_; have BK325 := n1_; have GW325 := n2_; have GE325 := n3_; clear n0_ n1_ n2_ n3_; clear hb hbox hg) | ((with_reducible refine gate_callee (f := 26) rfl ?_); refine goesL_ (some 19) rfl rfl Tryd.func26 (by kernel_rfl) rfl #[] rfl (by (try simp only [List.map_toArray, List.map_cons, List.map_nil]); first | done | rfl | (simp only [List.length_drop, List.length_take]; rfl)) ?_; (with_reducible refine (trammellaw3_awake.calls k  true _ A3.out).mono ?_); rintro e w7 ⟨rfl, hb⟩; refine ⟨_, rfl, ?_⟩; have n0_ := Aside0.mk (blk_below (g := gb325) (o := .cells #[.slice A0_0 l0_0.length c0_0, .slice A0_1 l0_1.length c0_1] 25 (0, 0)) (by (with_reducible repeat (first | refine blk_drewN ?_ _ | refine blk_drew ?_ | refine blk_alloc ?_ _)); exact BK325.out) hb); have n1_ := Aside0.mk (below_step (by repeat (first | (with_reducible first | exact HB.out | apply below_alloc | apply pw_below_drewN | apply below_drew1 | refine below_set ?_ GE325.out) | exact HB.out)) hb); clear BK325; clear HB; have BK325 := n0_; have HB := n1_; clear n0_ n1_; (try clear hb); (try clear hb2); (try clear hk); (try clear hi)))
    (try simp only [Act.put, List.setIfInBounds_toArray, List.set_cons_zero, List.set_cons_succ])
    go_cut [29] (fun v29 wc => ∃ (kq : Nat) (x29_4 : Bool), v29 = .bool x29_4 ∧ Aside0 (trammellaw3_TreeParts.j0 kq a1 x29_4 l0_0 l0_1 = some r) ∧ Aside0 (kq ≤ k) ∧ Aside0 (wc.heap[gb325]? = some (.cells #[(.slice A0_0 l0_0.length c0_0), (.slice A0_1 l0_1.length c0_1)] 25 (0, 0))) ∧ Aside0 (Below w.heap.size w wc))
    case first =>
      have H := HC5.out
      clear HC5
      replace H := Option.bind_eq_some_iff.mp H
      obtain ⟨t327, A80, H⟩ := H
      (try dsimp only at H)
      have A8 := Aside0.mk A80
      clear A80
      by_cases c9 : t327 = true
      · subst c9
        have H1 := (if_pos rfl).symm.trans H
        clear H
        have H := H1
        clear H1
        have H' := Aside0.mk H
        clear H
        have hcz10_0 : w7.cell? ⟨gb325, 0, none⟩ = some (.slice A0_0 l0_0.length c0_0) := (blk_cell BK325.out 0).trans rfl
        have hcz10_1 : w7.cell? ⟨gb325, 1, none⟩ = some (.slice A0_1 l0_1.length c0_1) := (blk_cell BK325.out 1).trans rfl
        have hfz10_0 := blk_frozen BK325.out 0
        have hfz10_1 := blk_frozen BK325.out 1
        go_wp2_with (first | ((with_reducible refine gate_callee (f := 20) rfl ?_); refine goesL_ (some 22) rfl rfl Tryd.func20 (by kernel_rfl) rfl #[.agg #[.slice A0_0 l0_0.length c0_0, .slice A0_1 l0_1.length c0_1]] rfl (by (try simp only [List.map_toArray, List.map_cons, List.map_nil]); first | done | rfl | (simp only [List.length_drop, List.length_take]; rfl)) ?_; (with_reducible refine (tree_May.calls k _ _ l0_0 _ _ l0_1 true _ ?side1 ?side2 ?side3 ?side4 A8.out).mono ?_); (case side1 => repeat (first | exact (Kd.C_below HR0_0.out HB.out) | (with_reducible refine Kd.C_alloc ?_ _) | (with_reducible refine Kd.C_drewN ?_ _) | (with_reducible refine Kd.C_drew ?_))); (case side2 => exact HC0_0.out); (case side3 => repeat (first | exact (Kd.C_below HR0_1.out HB.out) | (with_reducible refine Kd.C_alloc ?_ _) | (with_reducible refine Kd.C_drewN ?_ _) | (with_reducible refine Kd.C_drew ?_))); (case side4 => exact HC0_1.out); rintro e w11 ⟨rfl, hb⟩; refine ⟨_, rfl, ?_⟩; have n0_ := Aside0.mk (blk_below (g := gb325) (o := .cells #[.slice A0_0 l0_0.length c0_0, .slice A0_1 l0_1.length c0_1] 25 (0, 0)) (by (with_reducible repeat (first | refine blk_drewN ?_ _ | refine blk_drew ?_ | refine blk_alloc ?_ _)); exact BK325.out) hb); have n1_ := Aside0.mk (below_step (by repeat (first | (with_reducible first | exact HB.out | apply below_alloc | apply pw_below_drewN | apply below_drew1 | refine below_set ?_ GE325.out) | exact HB.out)) hb); clear BK325; clear HB; have BK325 := n0_; have HB := n1_; clear n0_ n1_; (try clear hb); (try clear hb2); (try clear hk); (try clear hi); have hcz12_0 : w11.cell? ⟨gb325, 0, none⟩ = some (.slice A0_0 l0_0.length c0_0) := (blk_cell BK325.out 0).trans rfl; have hcz12_1 : w11.cell? ⟨gb325, 1, none⟩ = some (.slice A0_1 l0_1.length c0_1) := (blk_cell BK325.out 1).trans rfl; have hfz12_0 := blk_frozen BK325.out 0; have hfz12_1 := blk_frozen BK325.out 1))
        go_meet
        case rel => exact ⟨_, (decide ((l0_1.length : Int) < 1)), (by first | rfl | (simp; done) | (simp [*]; done)), H', ⟨by first | omega | exact Nat.le_refl _⟩, ⟨by (with_reducible repeat (first | refine blk_drewN ?_ _ | refine blk_drew ?_ | refine blk_alloc ?_ _)); exact BK325.out⟩, ⟨by repeat (first | (with_reducible first | exact HB.out | apply below_alloc | apply pw_below_drewN | apply below_drew1 | refine below_set ?_ GE325.out) | exact HB.out)⟩⟩
      · replace c9 := Bool.eq_false_iff.mpr c9
        subst c9
        have H1 := (if_neg (show ¬ (false = true) by decide)).symm.trans H
        clear H
        have H := H1
        clear H1
        have H' := Aside0.mk H
        clear H
        have hcz13_0 : w7.cell? ⟨gb325, 0, none⟩ = some (.slice A0_0 l0_0.length c0_0) := (blk_cell BK325.out 0).trans rfl
        have hcz13_1 : w7.cell? ⟨gb325, 1, none⟩ = some (.slice A0_1 l0_1.length c0_1) := (blk_cell BK325.out 1).trans rfl
        have hfz13_0 := blk_frozen BK325.out 0
        have hfz13_1 := blk_frozen BK325.out 1
        go_wp2_with (first | ((with_reducible refine gate_callee (f := 20) rfl ?_); refine goesL_ (some 22) rfl rfl Tryd.func20 (by kernel_rfl) rfl #[.agg #[.slice A0_0 l0_0.length c0_0, .slice A0_1 l0_1.length c0_1]] rfl (by (try simp only [List.map_toArray, List.map_cons, List.map_nil]); first | done | rfl | (simp only [List.length_drop, List.length_take]; rfl)) ?_; (with_reducible refine (tree_May.calls k _ _ l0_0 _ _ l0_1 false _ ?side1 ?side2 ?side3 ?side4 A8.out).mono ?_); (case side1 => repeat (first | exact (Kd.C_below HR0_0.out HB.out) | (with_reducible refine Kd.C_alloc ?_ _) | (with_reducible refine Kd.C_drewN ?_ _) | (with_reducible refine Kd.C_drew ?_))); (case side2 => exact HC0_0.out); (case side3 => repeat (first | exact (Kd.C_below HR0_1.out HB.out) | (with_reducible refine Kd.C_alloc ?_ _) | (with_reducible refine Kd.C_drewN ?_ _) | (with_reducible refine Kd.C_drew ?_))); (case side4 => exact HC0_1.out); rintro e w14 ⟨rfl, hb⟩; refine ⟨_, rfl, ?_⟩; have n0_ := Aside0.mk (blk_below (g := gb325) (o := .cells #[.slice A0_0 l0_0.length c0_0, .slice A0_1 l0_1.length c0_1] 25 (0, 0)) (by (with_reducible repeat (first | refine blk_drewN ?_ _ | refine blk_drew ?_ | refine blk_alloc ?_ _)); exact BK325.out) hb); have n1_ := Aside0.mk (below_step (by repeat (first | (with_reducible first | exact HB.out | apply below_alloc | apply pw_below_drewN | apply below_drew1 | refine below_set ?_ GE325.out) | exact HB.out)) hb); clear BK325; clear HB; have BK325 := n0_; have HB := n1_; clear n0_ n1_; (try clear hb); (try clear hb2); (try clear hk); (try clear hi)))
        go_meet
        case rel => exact ⟨_, (true), (by first | rfl | (simp; done) | (simp [*]; done)), H', ⟨by first | omega | exact Nat.le_refl _⟩, ⟨by (with_reducible repeat (first | refine blk_drewN ?_ _ | refine blk_drew ?_ | refine blk_alloc ?_ _)); exact BK325.out⟩, ⟨by repeat (first | (with_reducible first | exact HB.out | apply below_alloc | apply pw_below_drewN | apply below_drew1 | refine below_set ?_ GE325.out) | exact HB.out)⟩⟩
    case rest =>
      clear HC5
      try clear c2
      try clear p2
      try clear c4
      try clear c9
      try clear hcz10_0
      try clear hcz10_1
      try clear hcz12_0
      try clear hcz12_1
      try clear hcz13_0
      try clear hcz13_1
      try clear hfz10_0
      try clear hfz10_1
      try clear hfz12_0
      try clear hfz12_1
      try clear hfz13_0
      try clear hfz13_1
      obtain ⟨kq, x29_4, rfl, HA, HJ4, BK325, HB⟩ := hcut
      cases kq with
      | zero => exact absurd HA.out (by simp [trammellaw3_TreeParts.j0])
      | succ kj4 =>
        have H := HA.out
        clear HA
        simp only [trammellaw3_TreeParts.j0] at H
        by_cases c15 : x29_4 = true
        · subst c15
          have H1 := (if_pos rfl).symm.trans H
          clear H
          have H := H1
          clear H1
          obtain rfl := Option.some.inj H
          go_wp2
          go_ret
          exact ⟨by first | rfl | (simp [errW_none, errW_some] <;> rfl) | (simp [*, errW_none, errW_some] <;> rfl), by repeat (first | (with_reducible first | exact HB.out | apply below_alloc | apply pw_below_drewN | apply below_drew1 | refine below_set ?_ GE325.out) | exact HB.out)⟩
        · replace c15 := Bool.eq_false_iff.mpr c15
          subst c15
          have H1 := (if_neg (show ¬ (false = true) by decide)).symm.trans H
          clear H
          have H := H1
          clear H1
          by_cases c16 : (IntKind.u64.wrap ((l0_1.length : Int))) = 0
          · rw [if_pos c16] at H
            exact absurd H (by simp)
          · rw [if_neg c16] at H
            have c16b0 : ((IntKind.u64.wrap ((l0_1.length : Int))) == 0) = false := beq_eq_false_iff_ne.mpr c16
            have c16b1 : ((IntKind.u64.wrap ((l0_1.length : Int))) != 0) = true := bne_iff_ne.mpr c16
            replace H := Option.bind_eq_some_iff.mp H
            obtain ⟨⟨t328, t329⟩, A170, H⟩ := H
            (try dsimp only at H)
            have A17 := Aside0.mk A170
            clear A170
            replace H := Option.bind_eq_some_iff.mp H
            obtain ⟨⟨t332, t333⟩, A180, H⟩ := H
            (try dsimp only at H)
            have A18 := Aside0.mk A180
            clear A180
            replace H := Option.bind_eq_some_iff.mp H
            obtain ⟨⟨t336, t337⟩, A190, H⟩ := H
            (try dsimp only at H)
            have A19 := Aside0.mk A190
            clear A190
            have HC20 := Aside0.mk H
            clear H
            have hcz21_0 : wc.cell? ⟨gb325, 0, none⟩ = some (.slice A0_0 l0_0.length c0_0) := (blk_cell BK325.out 0).trans rfl
            have hcz21_1 : wc.cell? ⟨gb325, 1, none⟩ = some (.slice A0_1 l0_1.length c0_1) := (blk_cell BK325.out 1).trans rfl
            have hfz21_0 := blk_frozen BK325.out 0
            have hfz21_1 := blk_frozen BK325.out 1
            go_upto_region 9 with (first | ((with_reducible refine gate_callee (f := 16) rfl ?_); refine goesL_ (some 42) rfl rfl Tryd.func16 (by kernel_rfl) rfl #[.slice A0_1 l0_1.length c0_1, .int .i64 (wrap64 (Int.tmod (IntKind.u64.wrap (a1)) (IntKind.u64.wrap ((l0_1.length : Int)))))] rfl (by (try simp only [List.map_toArray, List.map_cons, List.map_nil]); first | done | rfl | (simp only [List.length_drop, List.length_take]; rfl)) ?_; (with_reducible refine (tree_Part.calls kj4 _ _ l0_1 (wrap64 (Int.tmod (IntKind.u64.wrap (a1)) (IntKind.u64.wrap ((l0_1.length : Int))))) t328 t329 _ ?side1 ?side2 A17.out).mono ?_); (case side1 => repeat (first | exact (Kd.C_below HR0_1.out HB.out) | (with_reducible refine Kd.C_alloc ?_ _) | (with_reducible refine Kd.C_drewN ?_ _) | (with_reducible refine Kd.C_drew ?_))); (case side2 => exact HC0_1.out); rintro e w22 ⟨v330, rfl, ho0, hb⟩; refine ⟨_, rfl, ?_⟩; have n0_ := Aside0.mk (Kd.R_lower ho0 (below_size (by repeat (first | (with_reducible first | exact HB.out | apply below_alloc | apply pw_below_drewN | apply below_drew1 | refine below_set ?_ GE325.out) | exact HB.out)))); have n1_ := Aside0.mk (blk_below (g := gb325) (o := .cells #[.slice A0_0 l0_0.length c0_0, .slice A0_1 l0_1.length c0_1] 25 (0, 0)) (by (with_reducible repeat (first | refine blk_drewN ?_ _ | refine blk_drew ?_ | refine blk_alloc ?_ _)); exact BK325.out) hb); have n2_ := Aside0.mk (below_step (by repeat (first | (with_reducible first | exact HB.out | apply below_alloc | apply pw_below_drewN | apply below_drew1 | refine below_set ?_ GE325.out) | exact HB.out)) hb); clear BK325; clear HB; have HO331 := n0_; have BK325 := n1_; have HB := n2_; clear n0_ n1_ n2_; (try clear hb); (try clear hb2); (try clear hk); (try clear hi); (try clear ho0); have hcz23_0 : w22.cell? ⟨gb325, 0, none⟩ = some (.slice A0_0 l0_0.length c0_0) := (blk_cell BK325.out 0).trans rfl; have hcz23_1 : w22.cell? ⟨gb325, 1, none⟩ = some (.slice A0_1 l0_1.length c0_1) := (blk_cell BK325.out 1).trans rfl; have hfz23_0 := blk_frozen BK325.out 0; have hfz23_1 := blk_frozen BK325.out 1) | ((with_reducible refine gate_callee (f := 16) rfl ?_); refine goesL_ (some 52) rfl rfl Tryd.func16 (by kernel_rfl) rfl #[.slice A0_1 l0_1.length c0_1, .int .i64 (wrap64 ((l0_1.length : Int) - 1))] rfl (by (try simp only [List.map_toArray, List.map_cons, List.map_nil]); first | done | rfl | (simp only [List.length_drop, List.length_take]; rfl)) ?_; (with_reducible refine (tree_Part.calls kj4 _ _ l0_1 (wrap64 ((l0_1.length : Int) - 1)) t332 t333 _ ?side1 ?side2 A18.out).mono ?_); (case side1 => repeat (first | exact (Kd.C_below HR0_1.out HB.out) | (with_reducible refine Kd.C_alloc ?_ _) | (with_reducible refine Kd.C_drewN ?_ _) | (with_reducible refine Kd.C_drew ?_))); (case side2 => exact HC0_1.out); rintro e w24 ⟨v334, rfl, ho0, hb⟩; refine ⟨_, rfl, ?_⟩; have n0_ := Aside0.mk (Kd.R_elder' (by (with_reducible repeat (first | apply Kd.R_alloc | apply Kd.R_drewN | apply Kd.R_drew)); exact HO331.out) (Kd.R_base ho0) hb); have n1_ := Aside0.mk (Kd.R_lower (Kd.R_new' ho0 (Kd.R_lt (by (with_reducible repeat (first | apply Kd.R_alloc | apply Kd.R_drewN | apply Kd.R_drew)); exact HO331.out))) (below_size (by repeat (first | (with_reducible first | exact HB.out | apply below_alloc | apply pw_below_drewN | apply below_drew1 | refine below_set ?_ GE325.out) | exact HB.out)))); have n2_ := Aside0.mk (blk_below (g := gb325) (o := .cells #[.slice A0_0 l0_0.length c0_0, .slice A0_1 l0_1.length c0_1] 25 (0, 0)) (by (with_reducible repeat (first | refine blk_drewN ?_ _ | refine blk_drew ?_ | refine blk_alloc ?_ _)); exact BK325.out) hb); have n3_ := Aside0.mk (below_step (by repeat (first | (with_reducible first | exact HB.out | apply below_alloc | apply pw_below_drewN | apply below_drew1 | refine below_set ?_ GE325.out) | exact HB.out)) hb); clear HO331; clear BK325; clear HB; have HO331 := n0_; have HO335 := n1_; have BK325 := n2_; have HB := n3_; clear n0_ n1_ n2_ n3_; (try clear hb); (try clear hb2); (try clear hk); (try clear hi); (try clear ho0); have hcz25_0 : w24.cell? ⟨gb325, 0, none⟩ = some (.slice A0_0 l0_0.length c0_0) := (blk_cell BK325.out 0).trans rfl; have hcz25_1 : w24.cell? ⟨gb325, 1, none⟩ = some (.slice A0_1 l0_1.length c0_1) := (blk_cell BK325.out 1).trans rfl; have hfz25_0 := blk_frozen BK325.out 0; have hfz25_1 := blk_frozen BK325.out 1) | ((with_reducible refine gate_callee (f := 14) rfl ?_); refine goesL_ (some 59) rfl rfl Tryd.func14 (by kernel_rfl) rfl #[.slice A0_1 l0_1.length c0_1, .int .i64 (wrap64 (Int.tmod (IntKind.u64.wrap (a1)) (IntKind.u64.wrap ((l0_1.length : Int)))))] rfl (by (try simp only [List.map_toArray, List.map_cons, List.map_nil]); first | done | rfl | (simp only [List.length_drop, List.length_take]; rfl)) ?_; (with_reducible refine (tree_Depth.calls kj4 _ _ l0_1 (wrap64 (Int.tmod (IntKind.u64.wrap (a1)) (IntKind.u64.wrap ((l0_1.length : Int))))) t336 t337 _ ?side1 ?side2 A19.out).mono ?_); (case side1 => repeat (first | exact (Kd.C_below HR0_1.out HB.out) | (with_reducible refine Kd.C_alloc ?_ _) | (with_reducible refine Kd.C_drewN ?_ _) | (with_reducible refine Kd.C_drew ?_))); (case side2 => exact HC0_1.out); rintro e w26 ⟨rfl, hb⟩; refine ⟨_, rfl, ?_⟩; have n0_ := Aside0.mk (Kd.R_below (by (with_reducible repeat (first | apply Kd.R_alloc | apply Kd.R_drewN | apply Kd.R_drew)); exact HO331.out) hb); have n1_ := Aside0.mk (Kd.R_below (by (with_reducible repeat (first | apply Kd.R_alloc | apply Kd.R_drewN | apply Kd.R_drew)); exact HO335.out) hb); have n2_ := Aside0.mk (blk_below (g := gb325) (o := .cells #[.slice A0_0 l0_0.length c0_0, .slice A0_1 l0_1.length c0_1] 25 (0, 0)) (by (with_reducible repeat (first | refine blk_drewN ?_ _ | refine blk_drew ?_ | refine blk_alloc ?_ _)); exact BK325.out) hb); have n3_ := Aside0.mk (below_step (by repeat (first | (with_reducible first | exact HB.out | apply below_alloc | apply pw_below_drewN | apply below_drew1 | refine below_set ?_ GE325.out) | exact HB.out)) hb); clear HO331; clear HO335; clear BK325; clear HB; have HO331 := n0_; have HO335 := n1_; have BK325 := n2_; have HB := n3_; clear n0_ n1_ n2_ n3_; (try clear hb); (try clear hb2); (try clear hk); (try clear hi)))
            (try simp only [Act.put, List.setIfInBounds_toArray, List.set_cons_zero, List.set_cons_succ])
            go_cut [93] (fun v93 wc => ∃ (kq : Nat) (x93_19 : Bool), v93 = .bool x93_19 ∧ Aside0 (trammellaw3_TreeParts.j1 kq (wrap64 (Int.tmod (IntKind.u64.wrap (a1)) (IntKind.u64.wrap ((l0_1.length : Int))))) t328 t336 x93_19 l0_0 l0_1 = some r) ∧ Aside0 (kq ≤ kj4) ∧ Aside0 (Kd.R k45 45 wc w.heap.size (fun _ => True) v330 t328) ∧ Aside0 (wc.heap[gb325]? = some (.cells #[(.slice A0_0 l0_0.length c0_0), (.slice A0_1 l0_1.length c0_1)] 25 (0, 0))) ∧ Aside0 (Below w.heap.size w wc))
            case first =>
              have H := HC20.out
              clear HC20
              replace H := Option.bind_eq_some_iff.mp H
              obtain ⟨t338, A270, H⟩ := H
              (try dsimp only at H)
              have A27 := Aside0.mk A270
              clear A270
              by_cases c28 : t338 = 0
              · rw [if_pos c28] at H
                have c28b0 : (t338 == 0) = true := beq_iff_eq.mpr c28
                have c28b1 : (t338 != 0) = false := bne_eq_false_iff_eq.mpr c28
                clear c28
                (first | rw [c28b0] | (simp only [i64_w, i32_w]; rw [c28b0]) | skip)
                replace H := Option.bind_eq_some_iff.mp H
                obtain ⟨t339, A290, H⟩ := H
                (try dsimp only at H)
                have A29 := Aside0.mk A290
                clear A290
                by_cases c30 : t339 = 0
                · rw [if_pos c30] at H
                  have c30b0 : (t339 == 0) = true := beq_iff_eq.mpr c30
                  have c30b1 : (t339 != 0) = false := bne_eq_false_iff_eq.mpr c30
                  clear c30
                  replace H := Option.bind_eq_some_iff.mp H
                  obtain ⟨t340, A310, H⟩ := H
                  (try dsimp only at H)
                  have A31 := Aside0.mk A310
                  clear A310
                  by_cases c32 : t340 = 0
                  · rw [if_pos c32] at H
                    have c32b0 : (t340 == 0) = true := beq_iff_eq.mpr c32
                    have c32b1 : (t340 != 0) = false := bne_eq_false_iff_eq.mpr c32
                    clear c32
                    replace H := Option.bind_eq_some_iff.mp H
                    obtain ⟨t341, A330, H⟩ := H
                    (try dsimp only at H)
                    have A33 := Aside0.mk A330
                    clear A330
                    by_cases c34 : t341 = true
                    · subst c34
                      have H1 := (if_pos rfl).symm.trans H
                      clear H
                      have H := H1
                      clear H1
                      by_cases c35 : (t328.length : Int) < 1
                      · rw [if_pos c35] at H
                        have c35b0 : decide ((t328.length : Int) < 1) = true := decide_eq_true c35
                        have c35b1 : decide (t328.length < 1) = true := decide_eq_true (by omega)
                        clear c35
                        have H' := Aside0.mk H
                        clear H
                        go_wp2_with (first | ((with_reducible refine gate_callee (f := 18) rfl ?_); refine goesL_ (some 63) rfl rfl Tryd.func18 (by kernel_rfl) rfl #[.int .i64 t329] rfl (by (try simp only [List.map_toArray, List.map_cons, List.map_nil]); first | done | rfl | (simp only [List.length_drop, List.length_take]; rfl)) ?_; (with_reducible refine (trammellaw0_Num.calls t329 t338 _ A27.out).mono ?_); rintro e w' ⟨rfl, ⟨nd, rfl⟩⟩; refine ⟨_, rfl, ?_⟩) | (go_at_call 18; (with_reducible refine (trammellaw0_Num.calls t333 t339 _ A29.out).mono ?_); rintro e w' ⟨rfl, ⟨nd, rfl⟩⟩) | (go_at_call 18; (with_reducible refine (trammellaw0_Num.calls t337 t340 _ A31.out).mono ?_); rintro e w' ⟨rfl, ⟨nd, rfl⟩⟩; have hcz36_0 : w26.cell? ⟨gb325, 0, none⟩ = some (.slice A0_0 l0_0.length c0_0) := (blk_cell BK325.out 0).trans rfl; have hcz36_1 : w26.cell? ⟨gb325, 1, none⟩ = some (.slice A0_1 l0_1.length c0_1) := (blk_cell BK325.out 1).trans rfl; have hfz36_0 := blk_frozen BK325.out 0; have hfz36_1 := blk_frozen BK325.out 1; obtain ⟨Ao37, co37, eo37⟩ := Kd.R_slice HO335.out; subst eo37) | (go_at_call 19; (with_reducible refine (trammellaw0_SameNodes.calls kj4 _ _ t332 _ _ l0_1 true _ ?side1 ?side2 ?side3 ?side4 A33.out).mono ?_); (case side1 => repeat (first | (with_reducible refine Kd.C_alloc ?_ _) | (with_reducible refine Kd.C_drewN ?_ _) | (with_reducible refine Kd.C_drew ?_) | exact (Kd.R_reads' HO335.out).2.2)); (case side2 => exact (Kd.R_reads' HO335.out).2.1); (case side3 => repeat (first | exact (Kd.C_below HR0_1.out (by repeat (first | (with_reducible first | exact HB.out | apply below_alloc | apply pw_below_drewN | apply below_drew1 | refine below_set ?_ GE325.out) | exact HB.out))) | (with_reducible refine Kd.C_alloc ?_ _) | (with_reducible refine Kd.C_drewN ?_ _) | (with_reducible refine Kd.C_drew ?_))); (case side4 => exact HC0_1.out); rintro e w' ⟨rfl, ⟨nd, rfl⟩⟩; obtain ⟨Ao38, co38, eo38⟩ := Kd.R_slice HO331.out; subst eo38))
                        go_meet
                        case rel => exact ⟨_, (true), (by first | rfl | (simp; done) | (simp [*]; done)), H', ⟨by have := HJ4.out; first | omega | exact Nat.le_refl _⟩, ⟨by (with_reducible repeat (first | apply Kd.R_alloc | apply Kd.R_drewN | apply Kd.R_drew)); exact Kd.R_mono HO331.out (fun _ hk => trivial)⟩, ⟨by (with_reducible repeat (first | refine blk_drewN ?_ _ | refine blk_drew ?_ | refine blk_alloc ?_ _)); exact BK325.out⟩, ⟨by repeat (first | (with_reducible first | exact HB.out | apply below_alloc | apply pw_below_drewN | apply below_drew1 | refine below_set ?_ GE325.out) | exact HB.out)⟩⟩
                      · rw [if_neg c35] at H
                        have c35b0 : decide ((t328.length : Int) < 1) = false := decide_eq_false c35
                        have c35b1 : decide (t328.length < 1) = false := decide_eq_false (by omega)
                        clear c35
                        have H' := Aside0.mk H
                        clear H
                        go_wp2_with (first | ((with_reducible refine gate_callee (f := 18) rfl ?_); refine goesL_ (some 63) rfl rfl Tryd.func18 (by kernel_rfl) rfl #[.int .i64 t329] rfl (by (try simp only [List.map_toArray, List.map_cons, List.map_nil]); first | done | rfl | (simp only [List.length_drop, List.length_take]; rfl)) ?_; (with_reducible refine (trammellaw0_Num.calls t329 t338 _ A27.out).mono ?_); rintro e w' ⟨rfl, ⟨nd, rfl⟩⟩; refine ⟨_, rfl, ?_⟩) | (go_at_call 18; (with_reducible refine (trammellaw0_Num.calls t333 t339 _ A29.out).mono ?_); rintro e w' ⟨rfl, ⟨nd, rfl⟩⟩) | (go_at_call 18; (with_reducible refine (trammellaw0_Num.calls t337 t340 _ A31.out).mono ?_); rintro e w' ⟨rfl, ⟨nd, rfl⟩⟩; have hcz39_0 : w26.cell? ⟨gb325, 0, none⟩ = some (.slice A0_0 l0_0.length c0_0) := (blk_cell BK325.out 0).trans rfl; have hcz39_1 : w26.cell? ⟨gb325, 1, none⟩ = some (.slice A0_1 l0_1.length c0_1) := (blk_cell BK325.out 1).trans rfl; have hfz39_0 := blk_frozen BK325.out 0; have hfz39_1 := blk_frozen BK325.out 1; obtain ⟨Ao40, co40, eo40⟩ := Kd.R_slice HO335.out; subst eo40) | (go_at_call 19; (with_reducible refine (trammellaw0_SameNodes.calls kj4 _ _ t332 _ _ l0_1 true _ ?side1 ?side2 ?side3 ?side4 A33.out).mono ?_); (case side1 => repeat (first | (with_reducible refine Kd.C_alloc ?_ _) | (with_reducible refine Kd.C_drewN ?_ _) | (with_reducible refine Kd.C_drew ?_) | exact (Kd.R_reads' HO335.out).2.2)); (case side2 => exact (Kd.R_reads' HO335.out).2.1); (case side3 => repeat (first | exact (Kd.C_below HR0_1.out (by repeat (first | (with_reducible first | exact HB.out | apply below_alloc | apply pw_below_drewN | apply below_drew1 | refine below_set ?_ GE325.out) | exact HB.out))) | (with_reducible refine Kd.C_alloc ?_ _) | (with_reducible refine Kd.C_drewN ?_ _) | (with_reducible refine Kd.C_drew ?_))); (case side4 => exact HC0_1.out); rintro e w' ⟨rfl, ⟨nd, rfl⟩⟩; obtain ⟨Ao41, co41, eo41⟩ := Kd.R_slice HO331.out; subst eo41))
                        go_meet
                        case rel => exact ⟨_, (decide ((t328.length : Int) > (wrap64 ((wrap64 (Int.tmod (IntKind.u64.wrap (a1)) (IntKind.u64.wrap ((l0_1.length : Int))))) + 1)))), (by first | rfl | (simp; done) | (simp [*]; done)), H', ⟨by have := HJ4.out; first | omega | exact Nat.le_refl _⟩, ⟨by (with_reducible repeat (first | apply Kd.R_alloc | apply Kd.R_drewN | apply Kd.R_drew)); exact Kd.R_mono HO331.out (fun _ hk => trivial)⟩, ⟨by (with_reducible repeat (first | refine blk_drewN ?_ _ | refine blk_drew ?_ | refine blk_alloc ?_ _)); exact BK325.out⟩, ⟨by repeat (first | (with_reducible first | exact HB.out | apply below_alloc | apply pw_below_drewN | apply below_drew1 | refine below_set ?_ GE325.out) | exact HB.out)⟩⟩
                    · replace c34 := Bool.eq_false_iff.mpr c34
                      subst c34
                      have H1 := (if_neg (show ¬ (false = true) by decide)).symm.trans H
                      clear H
                      have H := H1
                      clear H1
                      have H' := Aside0.mk H
                      clear H
                      go_wp2_with (first | ((with_reducible refine gate_callee (f := 18) rfl ?_); refine goesL_ (some 63) rfl rfl Tryd.func18 (by kernel_rfl) rfl #[.int .i64 t329] rfl (by (try simp only [List.map_toArray, List.map_cons, List.map_nil]); first | done | rfl | (simp only [List.length_drop, List.length_take]; rfl)) ?_; (with_reducible refine (trammellaw0_Num.calls t329 t338 _ A27.out).mono ?_); rintro e w' ⟨rfl, ⟨nd, rfl⟩⟩; refine ⟨_, rfl, ?_⟩) | (go_at_call 18; (with_reducible refine (trammellaw0_Num.calls t333 t339 _ A29.out).mono ?_); rintro e w' ⟨rfl, ⟨nd, rfl⟩⟩) | (go_at_call 18; (with_reducible refine (trammellaw0_Num.calls t337 t340 _ A31.out).mono ?_); rintro e w' ⟨rfl, ⟨nd, rfl⟩⟩; have hcz42_0 : w26.cell? ⟨gb325, 0, none⟩ = some (.slice A0_0 l0_0.length c0_0) := (blk_cell BK325.out 0).trans rfl; have hcz42_1 : w26.cell? ⟨gb325, 1, none⟩ = some (.slice A0_1 l0_1.length c0_1) := (blk_cell BK325.out 1).trans rfl; have hfz42_0 := blk_frozen BK325.out 0; have hfz42_1 := blk_frozen BK325.out 1; obtain ⟨Ao43, co43, eo43⟩ := Kd.R_slice HO335.out; subst eo43) | (go_at_call 19; (with_reducible refine (trammellaw0_SameNodes.calls kj4 _ _ t332 _ _ l0_1 false _ ?side1 ?side2 ?side3 ?side4 A33.out).mono ?_); (case side1 => repeat (first | (with_reducible refine Kd.C_alloc ?_ _) | (with_reducible refine Kd.C_drewN ?_ _) | (with_reducible refine Kd.C_drew ?_) | exact (Kd.R_reads' HO335.out).2.2)); (case side2 => exact (Kd.R_reads' HO335.out).2.1); (case side3 => repeat (first | exact (Kd.C_below HR0_1.out (by repeat (first | (with_reducible first | exact HB.out | apply below_alloc | apply pw_below_drewN | apply below_drew1 | refine below_set ?_ GE325.out) | exact HB.out))) | (with_reducible refine Kd.C_alloc ?_ _) | (with_reducible refine Kd.C_drewN ?_ _) | (with_reducible refine Kd.C_drew ?_))); (case side4 => exact HC0_1.out); rintro e w' ⟨rfl, ⟨nd, rfl⟩⟩))
                      go_meet
                      case rel => exact ⟨_, (true), (by first | rfl | (simp; done) | (simp [*]; done)), H', ⟨by have := HJ4.out; first | omega | exact Nat.le_refl _⟩, ⟨by (with_reducible repeat (first | apply Kd.R_alloc | apply Kd.R_drewN | apply Kd.R_drew)); exact Kd.R_mono HO331.out (fun _ hk => trivial)⟩, ⟨by (with_reducible repeat (first | refine blk_drewN ?_ _ | refine blk_drew ?_ | refine blk_alloc ?_ _)); exact BK325.out⟩, ⟨by repeat (first | (with_reducible first | exact HB.out | apply below_alloc | apply pw_below_drewN | apply below_drew1 | refine below_set ?_ GE325.out) | exact HB.out)⟩⟩
                  · rw [if_neg c32] at H
                    have c32b0 : (t340 == 0) = false := beq_eq_false_iff_ne.mpr c32
                    have c32b1 : (t340 != 0) = true := bne_iff_ne.mpr c32
                    have H' := Aside0.mk H
                    clear H
                    go_wp2_with (first | ((with_reducible refine gate_callee (f := 18) rfl ?_); refine goesL_ (some 63) rfl rfl Tryd.func18 (by kernel_rfl) rfl #[.int .i64 t329] rfl (by (try simp only [List.map_toArray, List.map_cons, List.map_nil]); first | done | rfl | (simp only [List.length_drop, List.length_take]; rfl)) ?_; (with_reducible refine (trammellaw0_Num.calls t329 t338 _ A27.out).mono ?_); rintro e w' ⟨rfl, ⟨nd, rfl⟩⟩; refine ⟨_, rfl, ?_⟩) | (go_at_call 18; (with_reducible refine (trammellaw0_Num.calls t333 t339 _ A29.out).mono ?_); rintro e w' ⟨rfl, ⟨nd, rfl⟩⟩) | (go_at_call 18; (with_reducible refine (trammellaw0_Num.calls t337 t340 _ A31.out).mono ?_); rintro e w' ⟨rfl, ⟨nd, rfl⟩⟩))
                    go_meet
                    case rel => exact ⟨_, (true), (by first | rfl | (simp; done) | (simp [*]; done)), H', ⟨by have := HJ4.out; first | omega | exact Nat.le_refl _⟩, ⟨by (with_reducible repeat (first | apply Kd.R_alloc | apply Kd.R_drewN | apply Kd.R_drew)); exact Kd.R_mono HO331.out (fun _ hk => trivial)⟩, ⟨by (with_reducible repeat (first | refine blk_drewN ?_ _ | refine blk_drew ?_ | refine blk_alloc ?_ _)); exact BK325.out⟩, ⟨by repeat (first | (with_reducible first | exact HB.out | apply below_alloc | apply pw_below_drewN | apply below_drew1 | refine below_set ?_ GE325.out) | exact HB.out)⟩⟩
                · rw [if_neg c30] at H
                  have c30b0 : (t339 == 0) = false := beq_eq_false_iff_ne.mpr c30
                  have c30b1 : (t339 != 0) = true := bne_iff_ne.mpr c30
                  have H' := Aside0.mk H
                  clear H
                  go_wp2_with (first | ((with_reducible refine gate_callee (f := 18) rfl ?_); refine goesL_ (some 63) rfl rfl Tryd.func18 (by kernel_rfl) rfl #[.int .i64 t329] rfl (by (try simp only [List.map_toArray, List.map_cons, List.map_nil]); first | done | rfl | (simp only [List.length_drop, List.length_take]; rfl)) ?_; (with_reducible refine (trammellaw0_Num.calls t329 t338 _ A27.out).mono ?_); rintro e w' ⟨rfl, ⟨nd, rfl⟩⟩; refine ⟨_, rfl, ?_⟩) | (go_at_call 18; (with_reducible refine (trammellaw0_Num.calls t333 t339 _ A29.out).mono ?_); rintro e w' ⟨rfl, ⟨nd, rfl⟩⟩))
                  go_meet
                  case rel => exact ⟨_, (true), (by first | rfl | (simp; done) | (simp [*]; done)), H', ⟨by have := HJ4.out; first | omega | exact Nat.le_refl _⟩, ⟨by (with_reducible repeat (first | apply Kd.R_alloc | apply Kd.R_drewN | apply Kd.R_drew)); exact Kd.R_mono HO331.out (fun _ hk => trivial)⟩, ⟨by (with_reducible repeat (first | refine blk_drewN ?_ _ | refine blk_drew ?_ | refine blk_alloc ?_ _)); exact BK325.out⟩, ⟨by repeat (first | (with_reducible first | exact HB.out | apply below_alloc | apply pw_below_drewN | apply below_drew1 | refine below_set ?_ GE325.out) | exact HB.out)⟩⟩
              · rw [if_neg c28] at H
                have c28b0 : (t338 == 0) = false := beq_eq_false_iff_ne.mpr c28
                have c28b1 : (t338 != 0) = true := bne_iff_ne.mpr c28
                (first | rw [c28b0] | (simp only [i64_w, i32_w]; rw [c28b0]) | skip)
                have H' := Aside0.mk H
                clear H
                go_wp2_with (first | ((with_reducible refine gate_callee (f := 18) rfl ?_); refine goesL_ (some 63) rfl rfl Tryd.func18 (by kernel_rfl) rfl #[.int .i64 t329] rfl (by (try simp only [List.map_toArray, List.map_cons, List.map_nil]); first | done | rfl | (simp only [List.length_drop, List.length_take]; rfl)) ?_; (with_reducible refine (trammellaw0_Num.calls t329 t338 _ A27.out).mono ?_); rintro e w' ⟨rfl, ⟨nd, rfl⟩⟩; refine ⟨_, rfl, ?_⟩))
                go_meet
                case rel => exact ⟨_, (true), (by first | rfl | (simp; done) | (simp [*]; done)), H', ⟨by have := HJ4.out; first | omega | exact Nat.le_refl _⟩, ⟨by (with_reducible repeat (first | apply Kd.R_alloc | apply Kd.R_drewN | apply Kd.R_drew)); exact Kd.R_mono HO331.out (fun _ hk => trivial)⟩, ⟨by (with_reducible repeat (first | refine blk_drewN ?_ _ | refine blk_drew ?_ | refine blk_alloc ?_ _)); exact BK325.out⟩, ⟨by repeat (first | (with_reducible first | exact HB.out | apply below_alloc | apply pw_below_drewN | apply below_drew1 | refine below_set ?_ GE325.out) | exact HB.out)⟩⟩
            case rest =>
              clear HC20
              try clear c1
              try clear c2
              try clear p2
              try clear c3
              try clear c4
              try clear p6
              try clear c9
              try clear c14
              try clear c15
              try clear c16
              try clear c16b0
              try clear c16b1
              try clear c18
              try clear c20
              try clear c26
              try clear c28
              try clear c28b0
              try clear c28b1
              try clear c30
              try clear c30b0
              try clear c30b1
              try clear c32
              try clear c32b0
              try clear c32b1
              try clear c34
              try clear c35
              try clear c35b0
              try clear c35b1
              try clear hcz10_0
              try clear hcz10_1
              try clear hcz12_0
              try clear hcz12_1
              try clear hcz13_0
              try clear hcz13_1
              try clear hcz21_0
              try clear hcz21_1
              try clear hcz23_0
              try clear hcz23_1
              try clear hcz25_0
              try clear hcz25_1
              try clear hcz36_0
              try clear hcz36_1
              try clear hcz39_0
              try clear hcz39_1
              try clear hcz42_0
              try clear hcz42_1
              try clear hfz10_0
              try clear hfz10_1
              try clear hfz12_0
              try clear hfz12_1
              try clear hfz13_0
              try clear hfz13_1
              try clear hfz21_0
              try clear hfz21_1
              try clear hfz23_0
              try clear hfz23_1
              try clear hfz25_0
              try clear hfz25_1
              try clear hfz36_0
              try clear hfz36_1
              try clear hfz39_0
              try clear hfz39_1
              try clear hfz42_0
              try clear hfz42_1
              try clear p2
              obtain ⟨kq, x93_19, rfl, HA, HJ19, HO_6, BK325, HB⟩ := hcut
              cases kq with
              | zero => exact absurd HA.out (by simp [trammellaw3_TreeParts.j1])
              | succ kj19 =>
                have H := HA.out
                clear HA
                simp only [trammellaw3_TreeParts.j1] at H
                by_cases c44 : x93_19 = true
                · subst c44
                  have H1 := (if_pos rfl).symm.trans H
                  clear H
                  have H := H1
                  clear H1
                  exact absurd ((Option.some.inj H).trans HTRUE.out) (by decide)
                · replace c44 := Bool.eq_false_iff.mpr c44
                  subst c44
                  have H1 := (if_neg (show ¬ (false = true) by decide)).symm.trans H
                  clear H
                  have H := H1
                  clear H1
                  replace H := Option.bind_eq_some_iff.mp H
                  obtain ⟨⟨t342, t343⟩, A450, H⟩ := H
                  (try dsimp only at H)
                  have A45 := Aside0.mk A450
                  clear A450
                  replace H := Option.bind_eq_some_iff.mp H
                  obtain ⟨⟨t344, t345⟩, A460, H⟩ := H
                  (try dsimp only at H)
                  have A46 := Aside0.mk A460
                  clear A460
                  have H' := Aside0.mk H
                  clear H
                  obtain ⟨Ao47, co47, eo47⟩ := Kd.R_slice HO_6.out
                  subst eo47
                  go_wp2_with (first | ((with_reducible refine gate_callee (f := 14) rfl ?_); refine goesL_ (some 99) rfl rfl Tryd.func14 (by kernel_rfl) rfl #[.slice Ao47 t328.length co47, .int .i64 (wrap64 ((t328.length : Int) - 1))] rfl (by (try simp only [List.map_toArray, List.map_cons, List.map_nil]); first | done | rfl | (simp only [List.length_drop, List.length_take]; rfl)) ?_; (with_reducible refine (tree_Depth.calls kj19 _ _ t328 (wrap64 ((t328.length : Int) - 1)) t342 t343 _ ?side1 ?side2 A45.out).mono ?_); (case side1 => repeat (first | (with_reducible refine Kd.C_alloc ?_ _) | (with_reducible refine Kd.C_drewN ?_ _) | (with_reducible refine Kd.C_drew ?_) | exact (Kd.R_reads' HO_6.out).2.2)); (case side2 => exact (Kd.R_reads' HO_6.out).2.1); rintro e w48 ⟨rfl, hb⟩; refine ⟨_, rfl, ?_⟩; have n0_ := Aside0.mk (Kd.R_below (by (with_reducible repeat (first | apply Kd.R_alloc | apply Kd.R_drewN | apply Kd.R_drew)); exact HO_6.out) hb); have n1_ := Aside0.mk (blk_below (g := gb325) (o := .cells #[.slice A0_0 l0_0.length c0_0, .slice A0_1 l0_1.length c0_1] 25 (0, 0)) (by (with_reducible repeat (first | refine blk_drewN ?_ _ | refine blk_drew ?_ | refine blk_alloc ?_ _)); exact BK325.out) hb); have n2_ := Aside0.mk (below_step (by repeat (first | (with_reducible first | exact HB.out | apply below_alloc | apply pw_below_drewN | apply below_drew1 | refine below_set ?_ GE325.out) | exact HB.out)) hb); clear HO_6; clear BK325; clear HB; have HO_6 := n0_; have BK325 := n1_; have HB := n2_; clear n0_ n1_ n2_; (try clear hb); (try clear hb2); (try clear hk); (try clear hi); have hcz49_0 : w48.cell? ⟨gb325, 0, none⟩ = some (.slice A0_0 l0_0.length c0_0) := (blk_cell BK325.out 0).trans rfl; have hcz49_1 : w48.cell? ⟨gb325, 1, none⟩ = some (.slice A0_1 l0_1.length c0_1) := (blk_cell BK325.out 1).trans rfl; have hfz49_0 := blk_frozen BK325.out 0; have hfz49_1 := blk_frozen BK325.out 1) | ((with_reducible refine gate_callee (f := 14) rfl ?_); refine goesL_ (some 109) rfl rfl Tryd.func14 (by kernel_rfl) rfl #[.slice A0_1 l0_1.length c0_1, .int .i64 (wrap64 ((l0_1.length : Int) - 1))] rfl (by (try simp only [List.map_toArray, List.map_cons, List.map_nil]); first | done | rfl | (simp only [List.length_drop, List.length_take]; rfl)) ?_; (with_reducible refine (tree_Depth.calls kj19 _ _ l0_1 (wrap64 ((l0_1.length : Int) - 1)) t344 t345 _ ?side1 ?side2 A46.out).mono ?_); (case side1 => repeat (first | exact (Kd.C_below HR0_1.out HB.out) | (with_reducible refine Kd.C_alloc ?_ _) | (with_reducible refine Kd.C_drewN ?_ _) | (with_reducible refine Kd.C_drew ?_))); (case side2 => exact HC0_1.out); rintro e w50 ⟨rfl, hb⟩; refine ⟨_, rfl, ?_⟩; have n0_ := Aside0.mk (Kd.R_below (by (with_reducible repeat (first | apply Kd.R_alloc | apply Kd.R_drewN | apply Kd.R_drew)); exact HO_6.out) hb); have n1_ := Aside0.mk (blk_below (g := gb325) (o := .cells #[.slice A0_0 l0_0.length c0_0, .slice A0_1 l0_1.length c0_1] 25 (0, 0)) (by (with_reducible repeat (first | refine blk_drewN ?_ _ | refine blk_drew ?_ | refine blk_alloc ?_ _)); exact BK325.out) hb); have n2_ := Aside0.mk (below_step (by repeat (first | (with_reducible first | exact HB.out | apply below_alloc | apply pw_below_drewN | apply below_drew1 | refine below_set ?_ GE325.out) | exact HB.out)) hb); clear HO_6; clear BK325; clear HB; have HO_6 := n0_; have BK325 := n1_; have HB := n2_; clear n0_ n1_ n2_; (try clear hb); (try clear hb2); (try clear hk); (try clear hi)))
                  go_loopg [16] kj19 (fun kq v16 w' => ∃ (x16_3 : Int), v16 = .int .i64 x16_3 ∧ Aside0 (trammellaw3_TreeParts.l0 kq (wrap64 (Int.tmod (IntKind.u64.wrap (a1)) (IntKind.u64.wrap ((l0_1.length : Int))))) t328 t336 t342 t343 t344 t345 x16_3 l0_0 l0_1 = some r) ∧ Aside0 (kq ≤ kj19) ∧ Aside0 (Kd.R k45 45 w' w.heap.size (fun _ => True) (.slice Ao47 t328.length co47) t328) ∧ Aside0 (w'.heap[gb325]? = some (.cells #[(.slice A0_0 l0_0.length c0_0), (.slice A0_1 l0_1.length c0_1)] 25 (0, 0))) ∧ Aside0 (Below w.heap.size w w'))
                  case atStart => exact ⟨(0), (by first | rfl | (simp; done) | (simp [*]; done)), H', ⟨Nat.le_refl _⟩, ⟨by (with_reducible repeat (first | apply Kd.R_alloc | apply Kd.R_drewN | apply Kd.R_drew)); exact HO_6.out⟩, ⟨by (with_reducible repeat (first | refine blk_drewN ?_ _ | refine blk_drew ?_ | refine blk_alloc ?_ _)); exact BK325.out⟩, ⟨by repeat (first | (with_reducible first | exact HB.out | apply below_alloc | apply pw_below_drewN | apply below_drew1 | refine below_set ?_ GE325.out) | exact HB.out)⟩⟩
                  case round =>
                    clear H'
                    try clear c1
                    try clear c2
                    try clear p2
                    try clear c3
                    try clear c4
                    try clear p6
                    try clear c9
                    try clear c14
                    try clear c15
                    try clear c16
                    try clear c16b0
                    try clear c16b1
                    try clear c18
                    try clear c20
                    try clear c26
                    try clear c28
                    try clear c28b0
                    try clear c28b1
                    try clear c30
                    try clear c30b0
                    try clear c30b1
                    try clear c32
                    try clear c32b0
                    try clear c32b1
                    try clear c34
                    try clear c35
                    try clear c35b0
                    try clear c35b1
                    try clear c44
                    try clear hcz10_0
                    try clear hcz10_1
                    try clear hcz12_0
                    try clear hcz12_1
                    try clear hcz13_0
                    try clear hcz13_1
                    try clear hcz21_0
                    try clear hcz21_1
                    try clear hcz23_0
                    try clear hcz23_1
                    try clear hcz25_0
                    try clear hcz25_1
                    try clear hcz36_0
                    try clear hcz36_1
                    try clear hcz39_0
                    try clear hcz39_1
                    try clear hcz42_0
                    try clear hcz42_1
                    try clear hcz49_0
                    try clear hcz49_1
                    try clear hfz10_0
                    try clear hfz10_1
                    try clear hfz12_0
                    try clear hfz12_1
                    try clear hfz13_0
                    try clear hfz13_1
                    try clear hfz21_0
                    try clear hfz21_1
                    try clear hfz23_0
                    try clear hfz23_1
                    try clear hfz25_0
                    try clear hfz25_1
                    try clear hfz36_0
                    try clear hfz36_1
                    try clear hfz39_0
                    try clear hfz39_1
                    try clear hfz42_0
                    try clear hfz42_1
                    try clear hfz49_0
                    try clear hfz49_1
                    try clear p2
                    try clear p6
                    obtain ⟨x16_3, rfl, HA, HK3, HO_6, BK325, HB⟩ := hrel
                    cases gk with
                    | zero => exact absurd HA.out (by simp [trammellaw3_TreeParts.l0])
                    | succ k3 =>
                      have H := HA.out
                      clear HA
                      simp only [trammellaw3_TreeParts.l0] at H
                      by_cases c51 : x16_3 < (t328.length : Int)
                      · rw [if_pos c51] at H
                        have c51b0 : decide (x16_3 < (t328.length : Int)) = true := decide_eq_true c51
                        clear c51
                        by_cases c52 : 0 ≤ x16_3
                        · rw [if_pos c52] at H
                          have c52b0 : decide (0 ≤ x16_3) = true := decide_eq_true c52
                          clear c52
                          obtain ⟨ji53, hji53⟩ : ∃ j_ : Int, (wrap64 ((wrap64 ((wrap64 ((wrap64 (Int.tmod (IntKind.u64.wrap (a1)) (IntKind.u64.wrap ((l0_1.length : Int))))) + 1)) - (t328.length : Int))) + x16_3)) = j_ := ⟨_, rfl⟩
                          replace H : (if 0 ≤ (ji53) then (if (ji53) < (l0_1.length : Int) then (if (!(((rd_T45 t328 x16_3).f0) == ((rd_T45 l0_1 (ji53)).f0)) || (!(((rd_T45 t328 x16_3).f4) == ((rd_T45 l0_1 (ji53)).f4)) || (!((((rd_T45 t328 x16_3).f5).toList) == (((rd_T45 l0_1 (ji53)).f5).toList)) || (!((((rd_T45 t328 x16_3).f6).toList) == (((rd_T45 l0_1 (ji53)).f6).toList)) || (!((((rd_T45 t328 x16_3).f7).toList) == (((rd_T45 l0_1 (ji53)).f7).toList)) || (!((((rd_T45 t328 x16_3).f8).toList) == (((rd_T45 l0_1 (ji53)).f8).toList)) || (!(((rd_T45 t328 x16_3).f9) == ((rd_T45 l0_1 (ji53)).f9))))))))) = true then (some false) else (trammellaw3_TreeParts.l0 k3 (wrap64 (Int.tmod (IntKind.u64.wrap (a1)) (IntKind.u64.wrap ((l0_1.length : Int))))) t328 t336 t342 t343 t344 t345 (wrap64 (x16_3 + 1)) l0_0 l0_1)) else (none)) else (none)) = some r := by first | (rw [hji53] at H; exact H) | (simp only [hji53] at H ⊢; exact H)
                          have hji53w : (IntKind.i64.wrap ((wrap64 ((wrap64 ((wrap64 (Int.tmod (IntKind.u64.wrap (a1)) (IntKind.u64.wrap ((l0_1.length : Int))))) + 1)) - (t328.length : Int))) + x16_3)) = ji53 := (i64_w _).trans hji53
                          by_cases c54 : 0 ≤ (ji53)
                          · rw [if_pos c54] at H
                            have c54b0 : decide (0 ≤ (ji53)) = true := decide_eq_true c54
                            clear c54
                            by_cases c55 : (ji53) < (l0_1.length : Int)
                            · rw [if_pos c55] at H
                              have c55b0 : decide ((ji53) < (l0_1.length : Int)) = true := decide_eq_true c55
                              clear c55
                              by_cases c56 : (!(((rd_T45 t328 x16_3).f0) == ((rd_T45 l0_1 (ji53)).f0)) || (!(((rd_T45 t328 x16_3).f4) == ((rd_T45 l0_1 (ji53)).f4)) || (!((((rd_T45 t328 x16_3).f5).toList) == (((rd_T45 l0_1 (ji53)).f5).toList)) || (!((((rd_T45 t328 x16_3).f6).toList) == (((rd_T45 l0_1 (ji53)).f6).toList)) || (!((((rd_T45 t328 x16_3).f7).toList) == (((rd_T45 l0_1 (ji53)).f7).toList)) || (!((((rd_T45 t328 x16_3).f8).toList) == (((rd_T45 l0_1 (ji53)).f8).toList)) || (!(((rd_T45 t328 x16_3).f9) == ((rd_T45 l0_1 (ji53)).f9))))))))) = true
                              · rw [if_pos c56] at H
                                have c56b0 : (!(((rd_T45 t328 x16_3).f0) == ((rd_T45 l0_1 (ji53)).f0)) || (!(((rd_T45 t328 x16_3).f4) == ((rd_T45 l0_1 (ji53)).f4)) || (!((((rd_T45 t328 x16_3).f5).toList) == (((rd_T45 l0_1 (ji53)).f5).toList)) || (!((((rd_T45 t328 x16_3).f6).toList) == (((rd_T45 l0_1 (ji53)).f6).toList)) || (!((((rd_T45 t328 x16_3).f7).toList) == (((rd_T45 l0_1 (ji53)).f7).toList)) || (!((((rd_T45 t328 x16_3).f8).toList) == (((rd_T45 l0_1 (ji53)).f8).toList)) || (!(((rd_T45 t328 x16_3).f9) == ((rd_T45 l0_1 (ji53)).f9))))))))) = true := c56
                                clear c56
                                exact absurd ((Option.some.inj H).trans HTRUE.out) (by decide)
                              · rw [if_neg c56] at H
                                have c56b0 : (!(((rd_T45 t328 x16_3).f0) == ((rd_T45 l0_1 (ji53)).f0)) || (!(((rd_T45 t328 x16_3).f4) == ((rd_T45 l0_1 (ji53)).f4)) || (!((((rd_T45 t328 x16_3).f5).toList) == (((rd_T45 l0_1 (ji53)).f5).toList)) || (!((((rd_T45 t328 x16_3).f6).toList) == (((rd_T45 l0_1 (ji53)).f6).toList)) || (!((((rd_T45 t328 x16_3).f7).toList) == (((rd_T45 l0_1 (ji53)).f7).toList)) || (!((((rd_T45 t328 x16_3).f8).toList) == (((rd_T45 l0_1 (ji53)).f8).toList)) || (!(((rd_T45 t328 x16_3).f9) == ((rd_T45 l0_1 (ji53)).f9))))))))) = false := by simpa using c56
                                clear c56
                                have H' := Aside0.mk H
                                clear H
                                try go_wp2
                                have n0_ := Aside0.mk (Kd.R_drew HO_6.out)
                                have n1_ := Aside0.mk (blk_drew BK325.out)
                                have n2_ := Aside0.mk (below_drew1 HB.out)
                                clear HO_6
                                clear BK325
                                clear HB
                                have HO_6 := n0_
                                have BK325 := n1_
                                have HB := n2_
                                clear n0_ n1_ n2_
                                have p346 : 0 ≤ (x16_3 : Int) := of_decide_eq_true (by first | (with_reducible assumption) | assumption)
                                have q346 : x16_3 < (t328.length : Int) := of_decide_eq_true (by first | (with_reducible assumption) | assumption)
                                obtain ⟨ad346, e346, hx346_0, hx346_1, hx346_2, hx346_3, hx346_4, hx346_5, hx346_6, hx346_7, hx346_8, hx346_9⟩ := at_T45 (Kd.R_reads' HO_6.out).2.2 x16_3 p346 q346
                                cases e346
                                replace p346 := eq_true p346
                                replace q346 := eq_true q346
                                have p347 : 0 ≤ ((ji53) : Int) := of_decide_eq_true (by first | (with_reducible assumption) | assumption)
                                have q347 : (ji53) < (l0_1.length : Int) := of_decide_eq_true (by first | (with_reducible assumption) | assumption)
                                obtain ⟨ad347, e347, hx347_0, hx347_1, hx347_2, hx347_3, hx347_4, hx347_5, hx347_6, hx347_7, hx347_8, hx347_9⟩ := at_T45 HR0_1.out (ji53) p347 q347
                                have hw347_9 := hx347_9
                                have hw347_8 := hx347_8
                                have hw347_7 := hx347_7
                                have hw347_6 := hx347_6
                                have hw347_5 := hx347_5
                                have hw347_4 := hx347_4
                                have hw347_3 := hx347_3
                                have hw347_2 := hx347_2
                                have hw347_1 := hx347_1
                                have hw347_0 := hx347_0
                                cases e347
                                replace hx347_0 := (HB.out.cell (World.block_lt_of_cell? w _ hx347_0)).trans hx347_0
                                replace hx347_1 := (HB.out.cell (World.block_lt_of_cell? w _ hx347_1)).trans hx347_1
                                replace hx347_2 := (HB.out.cell (World.block_lt_of_cell? w _ hx347_2)).trans hx347_2
                                replace hx347_3 := (HB.out.cell (World.block_lt_of_cell? w _ hx347_3)).trans hx347_3
                                replace hx347_4 := (HB.out.cell (World.block_lt_of_cell? w _ hx347_4)).trans hx347_4
                                replace hx347_5 := (HB.out.cell (World.block_lt_of_cell? w _ hx347_5)).trans hx347_5
                                replace hx347_6 := (HB.out.cell (World.block_lt_of_cell? w _ hx347_6)).trans hx347_6
                                replace hx347_7 := (HB.out.cell (World.block_lt_of_cell? w _ hx347_7)).trans hx347_7
                                replace hx347_8 := (HB.out.cell (World.block_lt_of_cell? w _ hx347_8)).trans hx347_8
                                replace hx347_9 := (HB.out.cell (World.block_lt_of_cell? w _ hx347_9)).trans hx347_9
                                replace p347 := eq_true p347
                                replace q347 := eq_true q347
                                refine start_ (n := 19) (S := fun w' => w'.cell? ⟨gb325, 0, none⟩ = some (.slice A0_0 l0_0.length c0_0) ∧ w'.cell? ⟨gb325, 1, none⟩ = some (.slice (some ad347) l0_1.length c0_1) ∧ w'.cell? (ad346.add ((x16_3).toNat * 10)) = some (.int .i64 ((rd_T45 t328 x16_3).f0)) ∧ w'.cell? ⟨(ad346.add ((x16_3).toNat * 10)).block, (ad346.add ((x16_3).toNat * 10)).off + 1, none⟩ = some (.int .i64 ((rd_T45 t328 x16_3).f1)) ∧ w'.cell? ⟨(ad346.add ((x16_3).toNat * 10)).block, (ad346.add ((x16_3).toNat * 10)).off + 2, none⟩ = some (.int .i64 ((rd_T45 t328 x16_3).f2)) ∧ w'.cell? ⟨(ad346.add ((x16_3).toNat * 10)).block, (ad346.add ((x16_3).toNat * 10)).off + 3, none⟩ = some (.int .i64 ((rd_T45 t328 x16_3).f3)) ∧ w'.cell? ⟨(ad346.add ((x16_3).toNat * 10)).block, (ad346.add ((x16_3).toNat * 10)).off + 4, none⟩ = some (.int .i64 ((rd_T45 t328 x16_3).f4)) ∧ w'.cell? ⟨(ad346.add ((x16_3).toNat * 10)).block, (ad346.add ((x16_3).toNat * 10)).off + 5, none⟩ = some (.string ((rd_T45 t328 x16_3).f5)) ∧ w'.cell? ⟨(ad346.add ((x16_3).toNat * 10)).block, (ad346.add ((x16_3).toNat * 10)).off + 6, none⟩ = some (.string ((rd_T45 t328 x16_3).f6)) ∧ w'.cell? ⟨(ad346.add ((x16_3).toNat * 10)).block, (ad346.add ((x16_3).toNat * 10)).off + 7, none⟩ = some (.string ((rd_T45 t328 x16_3).f7)) ∧ w'.cell? ⟨(ad346.add ((x16_3).toNat * 10)).block, (ad346.add ((x16_3).toNat * 10)).off + 8, none⟩ = some (.string ((rd_T45 t328 x16_3).f8)) ∧ w'.cell? ⟨(ad346.add ((x16_3).toNat * 10)).block, (ad346.add ((x16_3).toNat * 10)).off + 9, none⟩ = some (.int .i64 ((rd_T45 t328 x16_3).f9)) ∧ w'.cell? (ad347.add (((ji53)).toNat * 10)) = some (.int .i64 ((rd_T45 l0_1 (ji53)).f0)) ∧ w'.cell? ⟨(ad347.add (((ji53)).toNat * 10)).block, (ad347.add (((ji53)).toNat * 10)).off + 1, none⟩ = some (.int .i64 ((rd_T45 l0_1 (ji53)).f1)) ∧ w'.cell? ⟨(ad347.add (((ji53)).toNat * 10)).block, (ad347.add (((ji53)).toNat * 10)).off + 2, none⟩ = some (.int .i64 ((rd_T45 l0_1 (ji53)).f2)) ∧ w'.cell? ⟨(ad347.add (((ji53)).toNat * 10)).block, (ad347.add (((ji53)).toNat * 10)).off + 3, none⟩ = some (.int .i64 ((rd_T45 l0_1 (ji53)).f3)) ∧ w'.cell? ⟨(ad347.add (((ji53)).toNat * 10)).block, (ad347.add (((ji53)).toNat * 10)).off + 4, none⟩ = some (.int .i64 ((rd_T45 l0_1 (ji53)).f4)) ∧ w'.cell? ⟨(ad347.add (((ji53)).toNat * 10)).block, (ad347.add (((ji53)).toNat * 10)).off + 5, none⟩ = some (.string ((rd_T45 l0_1 (ji53)).f5)) ∧ w'.cell? ⟨(ad347.add (((ji53)).toNat * 10)).block, (ad347.add (((ji53)).toNat * 10)).off + 6, none⟩ = some (.string ((rd_T45 l0_1 (ji53)).f6)) ∧ w'.cell? ⟨(ad347.add (((ji53)).toNat * 10)).block, (ad347.add (((ji53)).toNat * 10)).off + 7, none⟩ = some (.string ((rd_T45 l0_1 (ji53)).f7)) ∧ w'.cell? ⟨(ad347.add (((ji53)).toNat * 10)).block, (ad347.add (((ji53)).toNat * 10)).off + 8, none⟩ = some (.string ((rd_T45 l0_1 (ji53)).f8)) ∧ w'.cell? ⟨(ad347.add (((ji53)).toNat * 10)).block, (ad347.add (((ji53)).toNat * 10)).off + 9, none⟩ = some (.int .i64 ((rd_T45 l0_1 (ji53)).f9))) (ds := []) #[false, false, false, false, false, false, false, false, false, false, false, false, false, false, false, false, false, false, false] (by kernel_rfl) rfl rfl ⟨(blk_cell BK325.out 0).trans rfl, (blk_cell BK325.out 1).trans rfl, hx346_0, hx346_1, hx346_2, hx346_3, hx346_4, hx346_5, hx346_6, hx346_7, hx346_8, hx346_9, ((HB.out.cell (World.block_lt_of_cell? w _ hw347_0)).trans hw347_0), ((HB.out.cell (World.block_lt_of_cell? w _ hw347_1)).trans hw347_1), ((HB.out.cell (World.block_lt_of_cell? w _ hw347_2)).trans hw347_2), ((HB.out.cell (World.block_lt_of_cell? w _ hw347_3)).trans hw347_3), ((HB.out.cell (World.block_lt_of_cell? w _ hw347_4)).trans hw347_4), ((HB.out.cell (World.block_lt_of_cell? w _ hw347_5)).trans hw347_5), ((HB.out.cell (World.block_lt_of_cell? w _ hw347_6)).trans hw347_6), ((HB.out.cell (World.block_lt_of_cell? w _ hw347_7)).trans hw347_7), ((HB.out.cell (World.block_lt_of_cell? w _ hw347_8)).trans hw347_8), ((HB.out.cell (World.block_lt_of_cell? w _ hw347_9)).trans hw347_9)⟩ (fun hHeld => ?_); refine with_tabW trammellaw3_TreeParts.tab16 trammellaw3_TreeParts.bits16 (fun HT_ HW_ => ?_)
                                generalize wr.drew = w57 at HO_6 BK325 HB hx346_0 hx346_1 hx346_2 hx346_3 hx346_4 hx346_5 hx346_6 hx346_7 hx346_8 hx346_9 hx347_0 hx347_1 hx347_2 hx347_3 hx347_4 hx347_5 hx347_6 hx347_7 hx347_8 hx347_9 hHeld ⊢
                                refine pure_ (i := 0) (N := some 118) (v := ?_) (a' := ?_) #[true, false, false, false, false, false, false, false, false, false, false, false, false, false, false, false, false, false, false] rfl rfl (any_of HT_.out (by kernel_rfl)) (fun _ _ _ h => h) (Or.inl ⟨by rfl, ?_⟩) ?_ ?_
                                rotate_left
                                · intro w'
                                  go_simp
                                  with_reducible rfl
                                rotate_left
                                · simp only [Act.put, List.setIfInBounds_toArray, List.set_cons_zero, List.set_cons_succ, i64_w, i32_w]
                                  rfl
                                refine pure_ (i := 1) (N := some 119) (v := ?_) (a' := ?_) #[true, true, false, false, false, false, false, false, false, false, false, false, false, false, false, false, false, false, false] rfl rfl (any_of HT_.out (by kernel_rfl)) (fun _ _ _ h => h) (Or.inl ⟨by rfl, ?_⟩) ?_ ?_
                                rotate_left
                                · intro w'
                                  go_simp
                                  with_reducible rfl
                                rotate_left
                                · simp only [Act.put, List.setIfInBounds_toArray, List.set_cons_zero, List.set_cons_succ, i64_w, i32_w]
                                  rfl
                                refine pure_ (i := 2) (N := some 120) (v := ?_) (a' := ?_) #[true, true, true, false, false, false, false, false, false, false, false, false, false, false, false, false, false, false, false] rfl rfl (any_of HT_.out (by kernel_rfl)) (fun _ _ _ h => h) (Or.inl ⟨by rfl, ?_⟩) ?_ ?_
                                rotate_left
                                · intro w'
                                  go_simp
                                  with_reducible rfl
                                rotate_left
                                · simp only [Act.put, List.setIfInBounds_toArray, List.set_cons_zero, List.set_cons_succ, i64_w, i32_w]
                                  rfl
                                refine pure_ (i := 4) (N := some 122) (v := ?_) (a' := ?_) #[true, true, true, false, true, false, false, false, false, false, false, false, false, false, false, false, false, false, false] rfl rfl (any_of HT_.out (by kernel_rfl)) (fun _ _ _ h => h) (Or.inl ⟨by rfl, ?_⟩) ?_ ?_
                                rotate_left
                                · intro w'
                                  go_simp
                                  with_reducible rfl
                                rotate_left
                                · simp only [Act.put, List.setIfInBounds_toArray, List.set_cons_zero, List.set_cons_succ, i64_w, i32_w]
                                  rfl
                                refine pure_ (i := 6) (N := some 124) (v := ?_) (a' := ?_) #[true, true, true, false, true, false, true, false, false, false, false, false, false, false, false, false, false, false, false] rfl rfl (any_of HT_.out (by kernel_rfl)) (fun _ _ _ h => h) (Or.inl ⟨by rfl, ?_⟩) ?_ ?_
                                rotate_left
                                · intro w'
                                  go_simp
                                  with_reducible rfl
                                rotate_left
                                · simp only [Act.put, List.setIfInBounds_toArray, List.set_cons_zero, List.set_cons_succ, i64_w, i32_w]
                                  rfl
                                refine pure_ (i := 7) (N := some 125) (v := ?_) (a' := ?_) #[true, true, true, false, true, false, true, true, false, false, false, false, false, false, false, false, false, false, false] rfl rfl (any_of HT_.out (by kernel_rfl)) (fun _ _ _ h => h) (Or.inl ⟨by rfl, ?_⟩) ?_ ?_
                                rotate_left
                                · intro w'
                                  go_simp
                                  with_reducible rfl
                                rotate_left
                                · simp only [Act.put, List.setIfInBounds_toArray, List.set_cons_zero, List.set_cons_succ, i64_w, i32_w]
                                  rfl
                                refine pure_ (i := 8) (N := some 126) (v := ?_) (a' := ?_) #[true, true, true, false, true, false, true, true, true, false, false, false, false, false, false, false, false, false, false] rfl rfl (any_of HT_.out (by kernel_rfl)) (fun _ _ _ h => h) (Or.inl ⟨by rfl, ?_⟩) ?_ ?_
                                rotate_left
                                · intro w'
                                  go_simp
                                  with_reducible rfl
                                rotate_left
                                · simp only [Act.put, List.setIfInBounds_toArray, List.set_cons_zero, List.set_cons_succ, i64_w, i32_w]
                                  rfl
                                refine pure_ (i := 9) (N := some 127) (v := ?_) (a' := ?_) #[true, true, true, false, true, false, true, true, true, true, false, false, false, false, false, false, false, false, false] rfl rfl (any_of HT_.out (by kernel_rfl)) (fun _ _ _ h => h) (Or.inl ⟨by rfl, ?_⟩) ?_ ?_
                                rotate_left
                                · intro w'
                                  go_simp
                                  with_reducible rfl
                                rotate_left
                                · simp only [Act.put, List.setIfInBounds_toArray, List.set_cons_zero, List.set_cons_succ, i64_w, i32_w]
                                  rfl
                                refine pure_ (i := 10) (N := some 128) (v := ?_) (a' := ?_) #[true, true, true, false, true, false, true, true, true, true, true, false, false, false, false, false, false, false, false] rfl rfl (any_of HT_.out (by kernel_rfl)) (fun _ _ _ h => h) (Or.inl ⟨by rfl, ?_⟩) ?_ ?_
                                rotate_left
                                · intro w'
                                  go_simp
                                  with_reducible rfl
                                rotate_left
                                · simp only [Act.put, List.setIfInBounds_toArray, List.set_cons_zero, List.set_cons_succ, i64_w, i32_w]
                                  rfl
                                refine pure_ (i := 11) (N := some 129) (v := ?_) (a' := ?_) #[true, true, true, false, true, false, true, true, true, true, true, true, false, false, false, false, false, false, false] rfl rfl (any_of HT_.out (by kernel_rfl)) (fun _ _ _ h => h) (Or.inl ⟨by rfl, ?_⟩) ?_ ?_
                                rotate_left
                                · intro w'
                                  go_simp
                                  with_reducible rfl
                                rotate_left
                                · simp only [Act.put, List.setIfInBounds_toArray, List.set_cons_zero, List.set_cons_succ, i64_w, i32_w]
                                  rfl
                                refine pure_ (i := 12) (N := some 130) (v := ?_) (a' := ?_) #[true, true, true, false, true, false, true, true, true, true, true, true, true, false, false, false, false, false, false] rfl rfl (any_of HT_.out (by kernel_rfl)) (fun _ _ _ h => h) (Or.inl ⟨by rfl, ?_⟩) ?_ ?_
                                rotate_left
                                · intro w'
                                  go_simp
                                  with_reducible rfl
                                rotate_left
                                · simp only [Act.put, List.setIfInBounds_toArray, List.set_cons_zero, List.set_cons_succ, i64_w, i32_w]
                                  rfl
                                refine take_ (i := 3) (N := some 121) (v := ?_) (a' := ?_) #[true, true, true, true, true, false, true, true, true, true, true, true, true, false, false, false, false, false, false] rfl rfl (take_ofW HT_.out HW_.out (by kernel_rfl)) (fun _ _ _ h => h) (Or.inl ⟨by rfl, ?_⟩) hHeld ?_ ?_
                                rotate_left
                                · rintro w' ⟨s0, s1, s2, s3, s4, s5, s6, s7, s8, s9, s10, s11, s12, s13, s14, s15, s16, s17, s18, s19, s20, s21⟩
                                  go_simp
                                  with_reducible rfl
                                rotate_left
                                · simp only [Act.put, List.setIfInBounds_toArray, List.set_cons_zero, List.set_cons_succ, i64_w, i32_w]
                                  rfl
                                refine take_ (i := 5) (N := some 123) (v := ?_) (a' := ?_) #[true, true, true, true, true, true, true, true, true, true, true, true, true, false, false, false, false, false, false] rfl rfl (take_ofW HT_.out HW_.out (by kernel_rfl)) (fun _ _ _ h => h) (Or.inl ⟨by rfl, ?_⟩) hHeld ?_ ?_
                                rotate_left
                                · rintro w' ⟨s0, s1, s2, s3, s4, s5, s6, s7, s8, s9, s10, s11, s12, s13, s14, s15, s16, s17, s18, s19, s20, s21⟩
                                  go_simp
                                  with_reducible rfl
                                rotate_left
                                · simp only [Act.put, List.setIfInBounds_toArray, List.set_cons_zero, List.set_cons_succ, i64_w, i32_w]
                                  rfl
                                refine pure_ (i := 13) (N := some 131) (v := ?_) (a' := ?_) #[true, true, true, true, true, true, true, true, true, true, true, true, true, true, false, false, false, false, false] rfl rfl (any_of HT_.out (by kernel_rfl)) (fun _ _ _ h => h) (Or.inl ⟨by rfl, ?_⟩) ?_ ?_
                                rotate_left
                                · intro w'
                                  go_simp
                                  with_reducible rfl
                                rotate_left
                                · simp only [Act.put, List.setIfInBounds_toArray, List.set_cons_zero, List.set_cons_succ, i64_w, i32_w]
                                  rfl
                                refine take_ (i := 14) (N := some 132) (v := ?_) (a' := ?_) #[true, true, true, true, true, true, true, true, true, true, true, true, true, true, true, false, false, false, false] rfl rfl (take_ofW HT_.out HW_.out (by kernel_rfl)) (fun _ _ _ h => h) (Or.inl ⟨by rfl, ?_⟩) hHeld ?_ ?_
                                rotate_left
                                · rintro w' ⟨s0, s1, s2, s3, s4, s5, s6, s7, s8, s9, s10, s11, s12, s13, s14, s15, s16, s17, s18, s19, s20, s21⟩
                                  go_simp
                                  with_reducible rfl
                                rotate_left
                                · simp only [Act.put, List.setIfInBounds_toArray, List.set_cons_zero, List.set_cons_succ, i64_w, i32_w]
                                  rfl
                                refine join_ (σ := Nat × Nat) 2 #[true, true, true, true, true, true, true, true, true, true, true, true, true, true, true, true, true, false, false] (fun s_ => [(17, .pointer (some ⟨s_.1, 0, none⟩)), (18, .pointer (some ⟨s_.2, 0, none⟩))]) (fun s_ w' => (w'.cell? ⟨gb325, 0, none⟩ = some (.slice A0_0 l0_0.length c0_0) ∧ w'.cell? ⟨gb325, 1, none⟩ = some (.slice (some ad347) l0_1.length c0_1) ∧ w'.cell? (ad346.add ((x16_3).toNat * 10)) = some (.int .i64 ((rd_T45 t328 x16_3).f0)) ∧ w'.cell? ⟨(ad346.add ((x16_3).toNat * 10)).block, (ad346.add ((x16_3).toNat * 10)).off + 1, none⟩ = some (.int .i64 ((rd_T45 t328 x16_3).f1)) ∧ w'.cell? ⟨(ad346.add ((x16_3).toNat * 10)).block, (ad346.add ((x16_3).toNat * 10)).off + 2, none⟩ = some (.int .i64 ((rd_T45 t328 x16_3).f2)) ∧ w'.cell? ⟨(ad346.add ((x16_3).toNat * 10)).block, (ad346.add ((x16_3).toNat * 10)).off + 3, none⟩ = some (.int .i64 ((rd_T45 t328 x16_3).f3)) ∧ w'.cell? ⟨(ad346.add ((x16_3).toNat * 10)).block, (ad346.add ((x16_3).toNat * 10)).off + 4, none⟩ = some (.int .i64 ((rd_T45 t328 x16_3).f4)) ∧ w'.cell? ⟨(ad346.add ((x16_3).toNat * 10)).block, (ad346.add ((x16_3).toNat * 10)).off + 5, none⟩ = some (.string ((rd_T45 t328 x16_3).f5)) ∧ w'.cell? ⟨(ad346.add ((x16_3).toNat * 10)).block, (ad346.add ((x16_3).toNat * 10)).off + 6, none⟩ = some (.string ((rd_T45 t328 x16_3).f6)) ∧ w'.cell? ⟨(ad346.add ((x16_3).toNat * 10)).block, (ad346.add ((x16_3).toNat * 10)).off + 7, none⟩ = some (.string ((rd_T45 t328 x16_3).f7)) ∧ w'.cell? ⟨(ad346.add ((x16_3).toNat * 10)).block, (ad346.add ((x16_3).toNat * 10)).off + 8, none⟩ = some (.string ((rd_T45 t328 x16_3).f8)) ∧ w'.cell? ⟨(ad346.add ((x16_3).toNat * 10)).block, (ad346.add ((x16_3).toNat * 10)).off + 9, none⟩ = some (.int .i64 ((rd_T45 t328 x16_3).f9)) ∧ w'.cell? (ad347.add (((ji53)).toNat * 10)) = some (.int .i64 ((rd_T45 l0_1 (ji53)).f0)) ∧ w'.cell? ⟨(ad347.add (((ji53)).toNat * 10)).block, (ad347.add (((ji53)).toNat * 10)).off + 1, none⟩ = some (.int .i64 ((rd_T45 l0_1 (ji53)).f1)) ∧ w'.cell? ⟨(ad347.add (((ji53)).toNat * 10)).block, (ad347.add (((ji53)).toNat * 10)).off + 2, none⟩ = some (.int .i64 ((rd_T45 l0_1 (ji53)).f2)) ∧ w'.cell? ⟨(ad347.add (((ji53)).toNat * 10)).block, (ad347.add (((ji53)).toNat * 10)).off + 3, none⟩ = some (.int .i64 ((rd_T45 l0_1 (ji53)).f3)) ∧ w'.cell? ⟨(ad347.add (((ji53)).toNat * 10)).block, (ad347.add (((ji53)).toNat * 10)).off + 4, none⟩ = some (.int .i64 ((rd_T45 l0_1 (ji53)).f4)) ∧ w'.cell? ⟨(ad347.add (((ji53)).toNat * 10)).block, (ad347.add (((ji53)).toNat * 10)).off + 5, none⟩ = some (.string ((rd_T45 l0_1 (ji53)).f5)) ∧ w'.cell? ⟨(ad347.add (((ji53)).toNat * 10)).block, (ad347.add (((ji53)).toNat * 10)).off + 6, none⟩ = some (.string ((rd_T45 l0_1 (ji53)).f6)) ∧ w'.cell? ⟨(ad347.add (((ji53)).toNat * 10)).block, (ad347.add (((ji53)).toNat * 10)).off + 7, none⟩ = some (.string ((rd_T45 l0_1 (ji53)).f7)) ∧ w'.cell? ⟨(ad347.add (((ji53)).toNat * 10)).block, (ad347.add (((ji53)).toNat * 10)).off + 8, none⟩ = some (.string ((rd_T45 l0_1 (ji53)).f8)) ∧ w'.cell? ⟨(ad347.add (((ji53)).toNat * 10)).block, (ad347.add (((ji53)).toNat * 10)).off + 9, none⟩ = some (.int .i64 ((rd_T45 l0_1 (ji53)).f9))) ∧ (Kd.R k45 45 w' w.heap.size (fun k_ => k_ ≠ s_.1 ∧ k_ ≠ s_.2) (.slice (some ad346) t328.length co47) t328) ∧ (w'.heap[gb325]? = some (.cells #[.slice A0_0 l0_0.length c0_0, .slice (some ad347) l0_1.length c0_1] 25 (0, 0))) ∧ (w'.heap[s_.1]? = some (.cells #[.int .i64 0, .int .i64 0, .int .i64 0, .int .i64 0, .int .i64 0, .string (⟨#[]⟩ : ByteArray), .string (⟨#[]⟩ : ByteArray), .string (⟨#[]⟩ : ByteArray), .string (⟨#[]⟩ : ByteArray), .int .i64 0] 45 (0, 0))) ∧ (w'.heap[s_.2]? = some (.cells #[.int .i64 0, .int .i64 0, .int .i64 0, .int .i64 0, .int .i64 0, .string (⟨#[]⟩ : ByteArray), .string (⟨#[]⟩ : ByteArray), .string (⟨#[]⟩ : ByteArray), .string (⟨#[]⟩ : ByteArray), .int .i64 0] 45 (0, 0))) ∧ (w.heap.size ≤ s_.1) ∧ (w.heap.size ≤ s_.1) ∧ (gb325 ≠ s_.1) ∧ (s_.1 ≠ gb325) ∧ (s_.2 ≠ s_.1) ∧ (s_.1 ≠ s_.2) ∧ (w.heap.size ≤ s_.2) ∧ (w.heap.size ≤ s_.2) ∧ (gb325 ≠ s_.2) ∧ (s_.2 ≠ gb325) ∧ (Below w.heap.size w w')) ?_ ?_
                                rotate_left
                                · intro hCont
                                  refine two_ (i := 15) (j := 16) (Ni := some 17) (Nj := some 18) #[true, true, true, true, true, true, true, true, true, true, true, true, true, true, true, true, false, false, false] #[true, true, true, true, true, true, true, true, true, true, true, true, true, true, true, false, true, false, false] rfl rfl rfl rfl (two_of HT_.out (by kernel_rfl)) (by decide) (by decide) (fun K hK => ?_) (fun K hK => ?_)
                                  · skip
                                    refine box_step ?hg (N := 17) ?hd (cs := #[.int .i64 0, .int .i64 0, .int .i64 0, .int .i64 0, .int .i64 0, .string (⟨#[]⟩ : ByteArray), .string (⟨#[]⟩ : ByteArray), .string (⟨#[]⟩ : ByteArray), .string (⟨#[]⟩ : ByteArray), .int .i64 0]) (t := 45) ?hr ?_; (case hd => rfl); (case hg => rfl); (case hr => first | (go_simp; done) | (go_simp; rfl))
                                    intro gb348 hg w58 hbox hb
                                    have HS2_ := (hb.cell (World.block_lt_of_cell? _ _ (hHeld.2.2.1))).trans (hHeld.2.2.1)
                                    have HS3_ := (hb.cell (World.block_lt_of_cell? _ _ (hHeld.2.2.2.1))).trans (hHeld.2.2.2.1)
                                    have HS4_ := (hb.cell (World.block_lt_of_cell? _ _ (hHeld.2.2.2.2.1))).trans (hHeld.2.2.2.2.1)
                                    have HS5_ := (hb.cell (World.block_lt_of_cell? _ _ (hHeld.2.2.2.2.2.1))).trans (hHeld.2.2.2.2.2.1)
                                    have HS6_ := (hb.cell (World.block_lt_of_cell? _ _ (hHeld.2.2.2.2.2.2.1))).trans (hHeld.2.2.2.2.2.2.1)
                                    have HS7_ := (hb.cell (World.block_lt_of_cell? _ _ (hHeld.2.2.2.2.2.2.2.1))).trans (hHeld.2.2.2.2.2.2.2.1)
                                    have HS8_ := (hb.cell (World.block_lt_of_cell? _ _ (hHeld.2.2.2.2.2.2.2.2.1))).trans (hHeld.2.2.2.2.2.2.2.2.1)
                                    have HS9_ := (hb.cell (World.block_lt_of_cell? _ _ (hHeld.2.2.2.2.2.2.2.2.2.1))).trans (hHeld.2.2.2.2.2.2.2.2.2.1)
                                    have HS10_ := (hb.cell (World.block_lt_of_cell? _ _ (hHeld.2.2.2.2.2.2.2.2.2.2.1))).trans (hHeld.2.2.2.2.2.2.2.2.2.2.1)
                                    have HS11_ := (hb.cell (World.block_lt_of_cell? _ _ (hHeld.2.2.2.2.2.2.2.2.2.2.2.1))).trans (hHeld.2.2.2.2.2.2.2.2.2.2.2.1)
                                    have n0_ := Aside0.mk (Kd.R_below (Kd.R_elderB (by (with_reducible repeat (first | apply Kd.R_alloc | apply Kd.R_drewN | apply Kd.R_drew)); exact HO_6.out) gb348 (Nat.le_of_eq hg.symm)) hb)
                                    have n1_ := Aside0.mk (blk_below (g := gb325) (o := .cells #[.slice A0_0 l0_0.length c0_0, .slice (some ad347) l0_1.length c0_1] 25 (0, 0)) (by (with_reducible repeat (first | refine blk_drewN ?_ _ | refine blk_drew ?_ | refine blk_alloc ?_ _)); exact BK325.out) hb)
                                    have n2_ := Aside0.mk (below_step (by repeat (first | (with_reducible first | exact HB.out | apply below_alloc | apply pw_below_drewN | apply below_drew1 | refine below_set ?_ GE325.out) | exact HB.out)) hb)
                                    have n3_ := Aside0.mk (hbox)
                                    have n4_ := Aside0.mk ((by rw [hg]; exact (below_size (by repeat (first | (with_reducible first | exact HB.out | apply below_alloc | apply pw_below_drewN | apply below_drew1 | refine below_set ?_ GE325.out) | exact HB.out))) : w.heap.size ≤ gb348))
                                    have n5_ := Aside0.mk ((by rw [hg]; exact (below_size (by repeat (first | (with_reducible first | exact HB.out | apply below_alloc | apply pw_below_drewN | apply below_drew1 | refine below_set ?_ GE325.out) | exact HB.out))) : w.heap.size ≤ gb348))
                                    have n6_ := Aside0.mk ((by rw [hg]; exact Nat.ne_of_lt (blk_lt (g := gb325) (o := .cells #[.slice A0_0 l0_0.length c0_0, .slice (some ad347) l0_1.length c0_1] 25 (0, 0)) (by (with_reducible repeat (first | refine blk_drewN ?_ _ | refine blk_drew ?_ | refine blk_alloc ?_ _)); exact BK325.out)) : gb325 ≠ gb348))
                                    have n7_ := Aside0.mk ((by rw [hg]; exact Nat.ne_of_gt (blk_lt (g := gb325) (o := .cells #[.slice A0_0 l0_0.length c0_0, .slice (some ad347) l0_1.length c0_1] 25 (0, 0)) (by (with_reducible repeat (first | refine blk_drewN ?_ _ | refine blk_drew ?_ | refine blk_alloc ?_ _)); exact BK325.out)) : gb348 ≠ gb325))
                                    clear HO_6
                                    clear BK325
                                    clear HB
                                    have HO_6 := n0_
                                    have BK325 := n1_
                                    have HB := n2_
                                    have BK348 := n3_
                                    have GW348 := n4_
                                    have GE348 := n5_
                                    have NB325_348 := n6_
                                    have NB348_325 := n7_
                                    clear n0_ n1_ n2_ n3_ n4_ n5_ n6_ n7_
                                    clear hb hbox hg
                                    refine hK.out _ _ ⟨(blk_cell BK325.out 0).trans rfl, (blk_cell BK325.out 1).trans rfl, HS2_, HS3_, HS4_, HS5_, HS6_, HS7_, HS8_, HS9_, HS10_, HS11_, ((HB.out.cell (World.block_lt_of_cell? w _ hw347_0)).trans hw347_0), ((HB.out.cell (World.block_lt_of_cell? w _ hw347_1)).trans hw347_1), ((HB.out.cell (World.block_lt_of_cell? w _ hw347_2)).trans hw347_2), ((HB.out.cell (World.block_lt_of_cell? w _ hw347_3)).trans hw347_3), ((HB.out.cell (World.block_lt_of_cell? w _ hw347_4)).trans hw347_4), ((HB.out.cell (World.block_lt_of_cell? w _ hw347_5)).trans hw347_5), ((HB.out.cell (World.block_lt_of_cell? w _ hw347_6)).trans hw347_6), ((HB.out.cell (World.block_lt_of_cell? w _ hw347_7)).trans hw347_7), ((HB.out.cell (World.block_lt_of_cell? w _ hw347_8)).trans hw347_8), ((HB.out.cell (World.block_lt_of_cell? w _ hw347_9)).trans hw347_9)⟩ (fun hHeld => ?_)
                                    clear hK K
                                    refine norm_ (a' := ?_) ?_ ?_
                                    rotate_left
                                    · show Act.put _ (some 17) _ = _
                                      simp only [Act.put, List.setIfInBounds_toArray, List.set_cons_zero, List.set_cons_succ, i64_w, i32_w]
                                      rfl
                                    refine one_ (i := 16) (N := some 18) #[true, true, true, true, true, true, true, true, true, true, true, true, true, true, true, true, true, false, false] rfl rfl (one_of HT_.out (by kernel_rfl)) (by decide) (fun K hK => ?_)
                                    refine box_step ?hg (N := 18) ?hd (cs := #[.int .i64 0, .int .i64 0, .int .i64 0, .int .i64 0, .int .i64 0, .string (⟨#[]⟩ : ByteArray), .string (⟨#[]⟩ : ByteArray), .string (⟨#[]⟩ : ByteArray), .string (⟨#[]⟩ : ByteArray), .int .i64 0]) (t := 45) ?hr ?_; (case hd => rfl); (case hg => rfl); (case hr => first | (go_simp; done) | (go_simp; rfl))
                                    intro gb349 hg w59 hbox hb
                                    have HS2_ := (hb.cell (World.block_lt_of_cell? _ _ (hHeld.2.2.1))).trans (hHeld.2.2.1)
                                    have HS3_ := (hb.cell (World.block_lt_of_cell? _ _ (hHeld.2.2.2.1))).trans (hHeld.2.2.2.1)
                                    have HS4_ := (hb.cell (World.block_lt_of_cell? _ _ (hHeld.2.2.2.2.1))).trans (hHeld.2.2.2.2.1)
                                    have HS5_ := (hb.cell (World.block_lt_of_cell? _ _ (hHeld.2.2.2.2.2.1))).trans (hHeld.2.2.2.2.2.1)
                                    have HS6_ := (hb.cell (World.block_lt_of_cell? _ _ (hHeld.2.2.2.2.2.2.1))).trans (hHeld.2.2.2.2.2.2.1)
                                    have HS7_ := (hb.cell (World.block_lt_of_cell? _ _ (hHeld.2.2.2.2.2.2.2.1))).trans (hHeld.2.2.2.2.2.2.2.1)
                                    have HS8_ := (hb.cell (World.block_lt_of_cell? _ _ (hHeld.2.2.2.2.2.2.2.2.1))).trans (hHeld.2.2.2.2.2.2.2.2.1)
                                    have HS9_ := (hb.cell (World.block_lt_of_cell? _ _ (hHeld.2.2.2.2.2.2.2.2.2.1))).trans (hHeld.2.2.2.2.2.2.2.2.2.1)
                                    have HS10_ := (hb.cell (World.block_lt_of_cell? _ _ (hHeld.2.2.2.2.2.2.2.2.2.2.1))).trans (hHeld.2.2.2.2.2.2.2.2.2.2.1)
                                    have HS11_ := (hb.cell (World.block_lt_of_cell? _ _ (hHeld.2.2.2.2.2.2.2.2.2.2.2.1))).trans (hHeld.2.2.2.2.2.2.2.2.2.2.2.1)
                                    have n0_ := Aside0.mk (Kd.R_below (Kd.R_elderB (by (with_reducible repeat (first | apply Kd.R_alloc | apply Kd.R_drewN | apply Kd.R_drew)); exact HO_6.out) gb349 (Nat.le_of_eq hg.symm)) hb)
                                    have n1_ := Aside0.mk (blk_below (g := gb325) (o := .cells #[.slice A0_0 l0_0.length c0_0, .slice (some ad347) l0_1.length c0_1] 25 (0, 0)) (by (with_reducible repeat (first | refine blk_drewN ?_ _ | refine blk_drew ?_ | refine blk_alloc ?_ _)); exact BK325.out) hb)
                                    have n2_ := Aside0.mk (blk_below (g := gb348) (o := .cells #[.int .i64 0, .int .i64 0, .int .i64 0, .int .i64 0, .int .i64 0, .string (⟨#[]⟩ : ByteArray), .string (⟨#[]⟩ : ByteArray), .string (⟨#[]⟩ : ByteArray), .string (⟨#[]⟩ : ByteArray), .int .i64 0] 45 (0, 0)) (by (with_reducible repeat (first | refine blk_drewN ?_ _ | refine blk_drew ?_ | refine blk_alloc ?_ _)); exact BK348.out) hb)
                                    have n3_ := Aside0.mk (below_step (by repeat (first | (with_reducible first | exact HB.out | apply below_alloc | apply pw_below_drewN | apply below_drew1 | refine below_set ?_ GE325.out | refine below_set ?_ GE348.out) | exact HB.out)) hb)
                                    have n4_ := Aside0.mk (hbox)
                                    have n5_ := Aside0.mk ((by rw [hg]; exact (below_size (by repeat (first | (with_reducible first | exact HB.out | apply below_alloc | apply pw_below_drewN | apply below_drew1 | refine below_set ?_ GE325.out | refine below_set ?_ GE348.out) | exact HB.out))) : w.heap.size ≤ gb349))
                                    have n6_ := Aside0.mk ((by rw [hg]; exact (below_size (by repeat (first | (with_reducible first | exact HB.out | apply below_alloc | apply pw_below_drewN | apply below_drew1 | refine below_set ?_ GE325.out | refine below_set ?_ GE348.out) | exact HB.out))) : w.heap.size ≤ gb349))
                                    have n7_ := Aside0.mk ((by rw [hg]; exact Nat.ne_of_lt (blk_lt (g := gb325) (o := .cells #[.slice A0_0 l0_0.length c0_0, .slice (some ad347) l0_1.length c0_1] 25 (0, 0)) (by (with_reducible repeat (first | refine blk_drewN ?_ _ | refine blk_drew ?_ | refine blk_alloc ?_ _)); exact BK325.out)) : gb325 ≠ gb349))
                                    have n8_ := Aside0.mk ((by rw [hg]; exact Nat.ne_of_gt (blk_lt (g := gb325) (o := .cells #[.slice A0_0 l0_0.length c0_0, .slice (some ad347) l0_1.length c0_1] 25 (0, 0)) (by (with_reducible repeat (first | refine blk_drewN ?_ _ | refine blk_drew ?_ | refine blk_alloc ?_ _)); exact BK325.out)) : gb349 ≠ gb325))
                                    have n9_ := Aside0.mk ((by rw [hg]; exact Nat.ne_of_lt (blk_lt (g := gb348) (o := .cells #[.int .i64 0, .int .i64 0, .int .i64 0, .int .i64 0, .int .i64 0, .string (⟨#[]⟩ : ByteArray), .string (⟨#[]⟩ : ByteArray), .string (⟨#[]⟩ : ByteArray), .string (⟨#[]⟩ : ByteArray), .int .i64 0] 45 (0, 0)) (by (with_reducible repeat (first | refine blk_drewN ?_ _ | refine blk_drew ?_ | refine blk_alloc ?_ _)); exact BK348.out)) : gb348 ≠ gb349))
                                    have n10_ := Aside0.mk ((by rw [hg]; exact Nat.ne_of_gt (blk_lt (g := gb348) (o := .cells #[.int .i64 0, .int .i64 0, .int .i64 0, .int .i64 0, .int .i64 0, .string (⟨#[]⟩ : ByteArray), .string (⟨#[]⟩ : ByteArray), .string (⟨#[]⟩ : ByteArray), .string (⟨#[]⟩ : ByteArray), .int .i64 0] 45 (0, 0)) (by (with_reducible repeat (first | refine blk_drewN ?_ _ | refine blk_drew ?_ | refine blk_alloc ?_ _)); exact BK348.out)) : gb349 ≠ gb348))
                                    clear HO_6
                                    clear BK325
                                    clear BK348
                                    clear HB
                                    have HO_6 := n0_
                                    have BK325 := n1_
                                    have BK348 := n2_
                                    have HB := n3_
                                    have BK349 := n4_
                                    have GW349 := n5_
                                    have GE349 := n6_
                                    have NB325_349 := n7_
                                    have NB349_325 := n8_
                                    have NB348_349 := n9_
                                    have NB349_348 := n10_
                                    clear n0_ n1_ n2_ n3_ n4_ n5_ n6_ n7_ n8_ n9_ n10_
                                    clear hb hbox hg
                                    refine hK.out _ _ ⟨(blk_cell BK325.out 0).trans rfl, (blk_cell BK325.out 1).trans rfl, HS2_, HS3_, HS4_, HS5_, HS6_, HS7_, HS8_, HS9_, HS10_, HS11_, ((HB.out.cell (World.block_lt_of_cell? w _ hw347_0)).trans hw347_0), ((HB.out.cell (World.block_lt_of_cell? w _ hw347_1)).trans hw347_1), ((HB.out.cell (World.block_lt_of_cell? w _ hw347_2)).trans hw347_2), ((HB.out.cell (World.block_lt_of_cell? w _ hw347_3)).trans hw347_3), ((HB.out.cell (World.block_lt_of_cell? w _ hw347_4)).trans hw347_4), ((HB.out.cell (World.block_lt_of_cell? w _ hw347_5)).trans hw347_5), ((HB.out.cell (World.block_lt_of_cell? w _ hw347_6)).trans hw347_6), ((HB.out.cell (World.block_lt_of_cell? w _ hw347_7)).trans hw347_7), ((HB.out.cell (World.block_lt_of_cell? w _ hw347_8)).trans hw347_8), ((HB.out.cell (World.block_lt_of_cell? w _ hw347_9)).trans hw347_9)⟩ (fun hHeld => ?_)
                                    clear hK K
                                    refine norm_ (a' := ?_) ?_ ?_
                                    rotate_left
                                    · show Act.put _ (some 18) _ = _
                                      simp only [Act.put, List.setIfInBounds_toArray, List.set_cons_zero, List.set_cons_succ, i64_w, i32_w]
                                      rfl
                                    exact norm_ (by simp only [putAll, Act.put, List.setIfInBounds_toArray, List.set_cons_zero, List.set_cons_succ]) (hCont (gb348, gb349) _ ⟨hHeld, (by (with_reducible repeat (first | apply Kd.R_alloc | apply Kd.R_drewN | apply Kd.R_drew)); exact Kd.R_mono HO_6.out (fun _ hk => ⟨hk.1.2, hk.2⟩)), (by (with_reducible repeat (first | refine blk_drewN ?_ _ | refine blk_drew ?_ | refine blk_alloc ?_ _)); exact BK325.out), (by (with_reducible repeat (first | refine blk_drewN ?_ _ | refine blk_drew ?_ | refine blk_alloc ?_ _)); exact BK348.out), (by (with_reducible repeat (first | refine blk_drewN ?_ _ | refine blk_drew ?_ | refine blk_alloc ?_ _)); exact BK349.out), GW348.out, GE348.out, NB325_348.out, NB348_325.out, NB349_348.out, NB348_349.out, GW349.out, GE349.out, NB325_349.out, NB349_325.out, (by repeat (first | (with_reducible first | exact HB.out | apply below_alloc | apply pw_below_drewN | apply below_drew1 | refine below_set ?_ GE325.out | refine below_set ?_ GE348.out | refine below_set ?_ GE349.out) | exact HB.out))⟩)
                                  · skip
                                    refine box_step ?hg (N := 18) ?hd (cs := #[.int .i64 0, .int .i64 0, .int .i64 0, .int .i64 0, .int .i64 0, .string (⟨#[]⟩ : ByteArray), .string (⟨#[]⟩ : ByteArray), .string (⟨#[]⟩ : ByteArray), .string (⟨#[]⟩ : ByteArray), .int .i64 0]) (t := 45) ?hr ?_; (case hd => rfl); (case hg => rfl); (case hr => first | (go_simp; done) | (go_simp; rfl))
                                    intro gb349 hg w58 hbox hb
                                    have HS2_ := (hb.cell (World.block_lt_of_cell? _ _ (hHeld.2.2.1))).trans (hHeld.2.2.1)
                                    have HS3_ := (hb.cell (World.block_lt_of_cell? _ _ (hHeld.2.2.2.1))).trans (hHeld.2.2.2.1)
                                    have HS4_ := (hb.cell (World.block_lt_of_cell? _ _ (hHeld.2.2.2.2.1))).trans (hHeld.2.2.2.2.1)
                                    have HS5_ := (hb.cell (World.block_lt_of_cell? _ _ (hHeld.2.2.2.2.2.1))).trans (hHeld.2.2.2.2.2.1)
                                    have HS6_ := (hb.cell (World.block_lt_of_cell? _ _ (hHeld.2.2.2.2.2.2.1))).trans (hHeld.2.2.2.2.2.2.1)
                                    have HS7_ := (hb.cell (World.block_lt_of_cell? _ _ (hHeld.2.2.2.2.2.2.2.1))).trans (hHeld.2.2.2.2.2.2.2.1)
                                    have HS8_ := (hb.cell (World.block_lt_of_cell? _ _ (hHeld.2.2.2.2.2.2.2.2.1))).trans (hHeld.2.2.2.2.2.2.2.2.1)
                                    have HS9_ := (hb.cell (World.block_lt_of_cell? _ _ (hHeld.2.2.2.2.2.2.2.2.2.1))).trans (hHeld.2.2.2.2.2.2.2.2.2.1)
                                    have HS10_ := (hb.cell (World.block_lt_of_cell? _ _ (hHeld.2.2.2.2.2.2.2.2.2.2.1))).trans (hHeld.2.2.2.2.2.2.2.2.2.2.1)
                                    have HS11_ := (hb.cell (World.block_lt_of_cell? _ _ (hHeld.2.2.2.2.2.2.2.2.2.2.2.1))).trans (hHeld.2.2.2.2.2.2.2.2.2.2.2.1)
                                    have n0_ := Aside0.mk (Kd.R_below (Kd.R_elderB (by (with_reducible repeat (first | apply Kd.R_alloc | apply Kd.R_drewN | apply Kd.R_drew)); exact HO_6.out) gb349 (Nat.le_of_eq hg.symm)) hb)
                                    have n1_ := Aside0.mk (blk_below (g := gb325) (o := .cells #[.slice A0_0 l0_0.length c0_0, .slice (some ad347) l0_1.length c0_1] 25 (0, 0)) (by (with_reducible repeat (first | refine blk_drewN ?_ _ | refine blk_drew ?_ | refine blk_alloc ?_ _)); exact BK325.out) hb)
                                    have n2_ := Aside0.mk (below_step (by repeat (first | (with_reducible first | exact HB.out | apply below_alloc | apply pw_below_drewN | apply below_drew1 | refine below_set ?_ GE325.out) | exact HB.out)) hb)
                                    have n3_ := Aside0.mk (hbox)
                                    have n4_ := Aside0.mk ((by rw [hg]; exact (below_size (by repeat (first | (with_reducible first | exact HB.out | apply below_alloc | apply pw_below_drewN | apply below_drew1 | refine below_set ?_ GE325.out) | exact HB.out))) : w.heap.size ≤ gb349))
                                    have n5_ := Aside0.mk ((by rw [hg]; exact (below_size (by repeat (first | (with_reducible first | exact HB.out | apply below_alloc | apply pw_below_drewN | apply below_drew1 | refine below_set ?_ GE325.out) | exact HB.out))) : w.heap.size ≤ gb349))
                                    have n6_ := Aside0.mk ((by rw [hg]; exact Nat.ne_of_lt (blk_lt (g := gb325) (o := .cells #[.slice A0_0 l0_0.length c0_0, .slice (some ad347) l0_1.length c0_1] 25 (0, 0)) (by (with_reducible repeat (first | refine blk_drewN ?_ _ | refine blk_drew ?_ | refine blk_alloc ?_ _)); exact BK325.out)) : gb325 ≠ gb349))
                                    have n7_ := Aside0.mk ((by rw [hg]; exact Nat.ne_of_gt (blk_lt (g := gb325) (o := .cells #[.slice A0_0 l0_0.length c0_0, .slice (some ad347) l0_1.length c0_1] 25 (0, 0)) (by (with_reducible repeat (first | refine blk_drewN ?_ _ | refine blk_drew ?_ | refine blk_alloc ?_ _)); exact BK325.out)) : gb349 ≠ gb325))
                                    clear HO_6
                                    clear BK325
                                    clear HB
                                    have HO_6 := n0_
                                    have BK325 := n1_
                                    have HB := n2_
                                    have BK349 := n3_
                                    have GW349 := n4_
                                    have GE349 := n5_
                                    have NB325_349 := n6_
                                    have NB349_325 := n7_
                                    clear n0_ n1_ n2_ n3_ n4_ n5_ n6_ n7_
                                    clear hb hbox hg
                                    refine hK.out _ _ ⟨(blk_cell BK325.out 0).trans rfl, (blk_cell BK325.out 1).trans rfl, HS2_, HS3_, HS4_, HS5_, HS6_, HS7_, HS8_, HS9_, HS10_, HS11_, ((HB.out.cell (World.block_lt_of_cell? w _ hw347_0)).trans hw347_0), ((HB.out.cell (World.block_lt_of_cell? w _ hw347_1)).trans hw347_1), ((HB.out.cell (World.block_lt_of_cell? w _ hw347_2)).trans hw347_2), ((HB.out.cell (World.block_lt_of_cell? w _ hw347_3)).trans hw347_3), ((HB.out.cell (World.block_lt_of_cell? w _ hw347_4)).trans hw347_4), ((HB.out.cell (World.block_lt_of_cell? w _ hw347_5)).trans hw347_5), ((HB.out.cell (World.block_lt_of_cell? w _ hw347_6)).trans hw347_6), ((HB.out.cell (World.block_lt_of_cell? w _ hw347_7)).trans hw347_7), ((HB.out.cell (World.block_lt_of_cell? w _ hw347_8)).trans hw347_8), ((HB.out.cell (World.block_lt_of_cell? w _ hw347_9)).trans hw347_9)⟩ (fun hHeld => ?_)
                                    clear hK K
                                    refine norm_ (a' := ?_) ?_ ?_
                                    rotate_left
                                    · show Act.put _ (some 18) _ = _
                                      simp only [Act.put, List.setIfInBounds_toArray, List.set_cons_zero, List.set_cons_succ, i64_w, i32_w]
                                      rfl
                                    refine one_ (i := 15) (N := some 17) #[true, true, true, true, true, true, true, true, true, true, true, true, true, true, true, true, true, false, false] rfl rfl (one_of HT_.out (by kernel_rfl)) (by decide) (fun K hK => ?_)
                                    refine box_step ?hg (N := 17) ?hd (cs := #[.int .i64 0, .int .i64 0, .int .i64 0, .int .i64 0, .int .i64 0, .string (⟨#[]⟩ : ByteArray), .string (⟨#[]⟩ : ByteArray), .string (⟨#[]⟩ : ByteArray), .string (⟨#[]⟩ : ByteArray), .int .i64 0]) (t := 45) ?hr ?_; (case hd => rfl); (case hg => rfl); (case hr => first | (go_simp; done) | (go_simp; rfl))
                                    intro gb348 hg w59 hbox hb
                                    have HS2_ := (hb.cell (World.block_lt_of_cell? _ _ (hHeld.2.2.1))).trans (hHeld.2.2.1)
                                    have HS3_ := (hb.cell (World.block_lt_of_cell? _ _ (hHeld.2.2.2.1))).trans (hHeld.2.2.2.1)
                                    have HS4_ := (hb.cell (World.block_lt_of_cell? _ _ (hHeld.2.2.2.2.1))).trans (hHeld.2.2.2.2.1)
                                    have HS5_ := (hb.cell (World.block_lt_of_cell? _ _ (hHeld.2.2.2.2.2.1))).trans (hHeld.2.2.2.2.2.1)
                                    have HS6_ := (hb.cell (World.block_lt_of_cell? _ _ (hHeld.2.2.2.2.2.2.1))).trans (hHeld.2.2.2.2.2.2.1)
                                    have HS7_ := (hb.cell (World.block_lt_of_cell? _ _ (hHeld.2.2.2.2.2.2.2.1))).trans (hHeld.2.2.2.2.2.2.2.1)
                                    have HS8_ := (hb.cell (World.block_lt_of_cell? _ _ (hHeld.2.2.2.2.2.2.2.2.1))).trans (hHeld.2.2.2.2.2.2.2.2.1)
                                    have HS9_ := (hb.cell (World.block_lt_of_cell? _ _ (hHeld.2.2.2.2.2.2.2.2.2.1))).trans (hHeld.2.2.2.2.2.2.2.2.2.1)
                                    have HS10_ := (hb.cell (World.block_lt_of_cell? _ _ (hHeld.2.2.2.2.2.2.2.2.2.2.1))).trans (hHeld.2.2.2.2.2.2.2.2.2.2.1)
                                    have HS11_ := (hb.cell (World.block_lt_of_cell? _ _ (hHeld.2.2.2.2.2.2.2.2.2.2.2.1))).trans (hHeld.2.2.2.2.2.2.2.2.2.2.2.1)
                                    have n0_ := Aside0.mk (Kd.R_below (Kd.R_elderB (by (with_reducible repeat (first | apply Kd.R_alloc | apply Kd.R_drewN | apply Kd.R_drew)); exact HO_6.out) gb348 (Nat.le_of_eq hg.symm)) hb)
                                    have n1_ := Aside0.mk (blk_below (g := gb325) (o := .cells #[.slice A0_0 l0_0.length c0_0, .slice (some ad347) l0_1.length c0_1] 25 (0, 0)) (by (with_reducible repeat (first | refine blk_drewN ?_ _ | refine blk_drew ?_ | refine blk_alloc ?_ _)); exact BK325.out) hb)
                                    have n2_ := Aside0.mk (blk_below (g := gb349) (o := .cells #[.int .i64 0, .int .i64 0, .int .i64 0, .int .i64 0, .int .i64 0, .string (⟨#[]⟩ : ByteArray), .string (⟨#[]⟩ : ByteArray), .string (⟨#[]⟩ : ByteArray), .string (⟨#[]⟩ : ByteArray), .int .i64 0] 45 (0, 0)) (by (with_reducible repeat (first | refine blk_drewN ?_ _ | refine blk_drew ?_ | refine blk_alloc ?_ _)); exact BK349.out) hb)
                                    have n3_ := Aside0.mk (below_step (by repeat (first | (with_reducible first | exact HB.out | apply below_alloc | apply pw_below_drewN | apply below_drew1 | refine below_set ?_ GE325.out | refine below_set ?_ GE349.out) | exact HB.out)) hb)
                                    have n4_ := Aside0.mk (hbox)
                                    have n5_ := Aside0.mk ((by rw [hg]; exact (below_size (by repeat (first | (with_reducible first | exact HB.out | apply below_alloc | apply pw_below_drewN | apply below_drew1 | refine below_set ?_ GE325.out | refine below_set ?_ GE349.out) | exact HB.out))) : w.heap.size ≤ gb348))
                                    have n6_ := Aside0.mk ((by rw [hg]; exact (below_size (by repeat (first | (with_reducible first | exact HB.out | apply below_alloc | apply pw_below_drewN | apply below_drew1 | refine below_set ?_ GE325.out | refine below_set ?_ GE349.out) | exact HB.out))) : w.heap.size ≤ gb348))
                                    have n7_ := Aside0.mk ((by rw [hg]; exact Nat.ne_of_lt (blk_lt (g := gb325) (o := .cells #[.slice A0_0 l0_0.length c0_0, .slice (some ad347) l0_1.length c0_1] 25 (0, 0)) (by (with_reducible repeat (first | refine blk_drewN ?_ _ | refine blk_drew ?_ | refine blk_alloc ?_ _)); exact BK325.out)) : gb325 ≠ gb348))
                                    have n8_ := Aside0.mk ((by rw [hg]; exact Nat.ne_of_gt (blk_lt (g := gb325) (o := .cells #[.slice A0_0 l0_0.length c0_0, .slice (some ad347) l0_1.length c0_1] 25 (0, 0)) (by (with_reducible repeat (first | refine blk_drewN ?_ _ | refine blk_drew ?_ | refine blk_alloc ?_ _)); exact BK325.out)) : gb348 ≠ gb325))
                                    have n9_ := Aside0.mk ((by rw [hg]; exact Nat.ne_of_lt (blk_lt (g := gb349) (o := .cells #[.int .i64 0, .int .i64 0, .int .i64 0, .int .i64 0, .int .i64 0, .string (⟨#[]⟩ : ByteArray), .string (⟨#[]⟩ : ByteArray), .string (⟨#[]⟩ : ByteArray), .string (⟨#[]⟩ : ByteArray), .int .i64 0] 45 (0, 0)) (by (with_reducible repeat (first | refine blk_drewN ?_ _ | refine blk_drew ?_ | refine blk_alloc ?_ _)); exact BK349.out)) : gb349 ≠ gb348))
                                    have n10_ := Aside0.mk ((by rw [hg]; exact Nat.ne_of_gt (blk_lt (g := gb349) (o := .cells #[.int .i64 0, .int .i64 0, .int .i64 0, .int .i64 0, .int .i64 0, .string (⟨#[]⟩ : ByteArray), .string (⟨#[]⟩ : ByteArray), .string (⟨#[]⟩ : ByteArray), .string (⟨#[]⟩ : ByteArray), .int .i64 0] 45 (0, 0)) (by (with_reducible repeat (first | refine blk_drewN ?_ _ | refine blk_drew ?_ | refine blk_alloc ?_ _)); exact BK349.out)) : gb348 ≠ gb349))
                                    clear HO_6
                                    clear BK325
                                    clear BK349
                                    clear HB
                                    have HO_6 := n0_
                                    have BK325 := n1_
                                    have BK349 := n2_
                                    have HB := n3_
                                    have BK348 := n4_
                                    have GW348 := n5_
                                    have GE348 := n6_
                                    have NB325_348 := n7_
                                    have NB348_325 := n8_
                                    have NB349_348 := n9_
                                    have NB348_349 := n10_
                                    clear n0_ n1_ n2_ n3_ n4_ n5_ n6_ n7_ n8_ n9_ n10_
                                    clear hb hbox hg
                                    refine hK.out _ _ ⟨(blk_cell BK325.out 0).trans rfl, (blk_cell BK325.out 1).trans rfl, HS2_, HS3_, HS4_, HS5_, HS6_, HS7_, HS8_, HS9_, HS10_, HS11_, ((HB.out.cell (World.block_lt_of_cell? w _ hw347_0)).trans hw347_0), ((HB.out.cell (World.block_lt_of_cell? w _ hw347_1)).trans hw347_1), ((HB.out.cell (World.block_lt_of_cell? w _ hw347_2)).trans hw347_2), ((HB.out.cell (World.block_lt_of_cell? w _ hw347_3)).trans hw347_3), ((HB.out.cell (World.block_lt_of_cell? w _ hw347_4)).trans hw347_4), ((HB.out.cell (World.block_lt_of_cell? w _ hw347_5)).trans hw347_5), ((HB.out.cell (World.block_lt_of_cell? w _ hw347_6)).trans hw347_6), ((HB.out.cell (World.block_lt_of_cell? w _ hw347_7)).trans hw347_7), ((HB.out.cell (World.block_lt_of_cell? w _ hw347_8)).trans hw347_8), ((HB.out.cell (World.block_lt_of_cell? w _ hw347_9)).trans hw347_9)⟩ (fun hHeld => ?_)
                                    clear hK K
                                    refine norm_ (a' := ?_) ?_ ?_
                                    rotate_left
                                    · show Act.put _ (some 17) _ = _
                                      simp only [Act.put, List.setIfInBounds_toArray, List.set_cons_zero, List.set_cons_succ, i64_w, i32_w]
                                      rfl
                                    exact norm_ (by simp only [putAll, Act.put, List.setIfInBounds_toArray, List.set_cons_zero, List.set_cons_succ]) (hCont (gb348, gb349) _ ⟨hHeld, (by (with_reducible repeat (first | apply Kd.R_alloc | apply Kd.R_drewN | apply Kd.R_drew)); exact Kd.R_mono HO_6.out (fun _ hk => ⟨hk.2, hk.1.2⟩)), (by (with_reducible repeat (first | refine blk_drewN ?_ _ | refine blk_drew ?_ | refine blk_alloc ?_ _)); exact BK325.out), (by (with_reducible repeat (first | refine blk_drewN ?_ _ | refine blk_drew ?_ | refine blk_alloc ?_ _)); exact BK348.out), (by (with_reducible repeat (first | refine blk_drewN ?_ _ | refine blk_drew ?_ | refine blk_alloc ?_ _)); exact BK349.out), GW348.out, GE348.out, NB325_348.out, NB348_325.out, NB349_348.out, NB348_349.out, GW349.out, GE349.out, NB325_349.out, NB349_325.out, (by repeat (first | (with_reducible first | exact HB.out | apply below_alloc | apply pw_below_drewN | apply below_drew1 | refine below_set ?_ GE325.out | refine below_set ?_ GE349.out | refine below_set ?_ GE348.out) | exact HB.out))⟩)
                                rintro ⟨gb348, gb349⟩ w60 ⟨hS_, h0_, h1_, h2_, h3_, h4_, h5_, h6_, h7_, h8_, h9_, h10_, h11_, h12_, h13_, h14_⟩
                                have n0_ : Aside0 (Kd.R k45 45 w60 w.heap.size (fun k_ => k_ ≠ gb348 ∧ k_ ≠ gb349) (.slice (some ad346) t328.length co47) t328) := ⟨h0_⟩
                                have n1_ : Aside0 (w60.heap[gb325]? = some (.cells #[.slice A0_0 l0_0.length c0_0, .slice (some ad347) l0_1.length c0_1] 25 (0, 0))) := ⟨h1_⟩
                                have n2_ : Aside0 (w60.heap[gb348]? = some (.cells #[.int .i64 0, .int .i64 0, .int .i64 0, .int .i64 0, .int .i64 0, .string (⟨#[]⟩ : ByteArray), .string (⟨#[]⟩ : ByteArray), .string (⟨#[]⟩ : ByteArray), .string (⟨#[]⟩ : ByteArray), .int .i64 0] 45 (0, 0))) := ⟨h2_⟩
                                have n3_ : Aside0 (w60.heap[gb349]? = some (.cells #[.int .i64 0, .int .i64 0, .int .i64 0, .int .i64 0, .int .i64 0, .string (⟨#[]⟩ : ByteArray), .string (⟨#[]⟩ : ByteArray), .string (⟨#[]⟩ : ByteArray), .string (⟨#[]⟩ : ByteArray), .int .i64 0] 45 (0, 0))) := ⟨h3_⟩
                                have n4_ : Aside0 (w.heap.size ≤ gb348) := ⟨h4_⟩
                                have n5_ : Aside0 (w.heap.size ≤ gb348) := ⟨h5_⟩
                                have n6_ : Aside0 (gb325 ≠ gb348) := ⟨h6_⟩
                                have n7_ : Aside0 (gb348 ≠ gb325) := ⟨h7_⟩
                                have n8_ : Aside0 (gb349 ≠ gb348) := ⟨h8_⟩
                                have n9_ : Aside0 (gb348 ≠ gb349) := ⟨h9_⟩
                                have n10_ : Aside0 (w.heap.size ≤ gb349) := ⟨h10_⟩
                                have n11_ : Aside0 (w.heap.size ≤ gb349) := ⟨h11_⟩
                                have n12_ : Aside0 (gb325 ≠ gb349) := ⟨h12_⟩
                                have n13_ : Aside0 (gb349 ≠ gb325) := ⟨h13_⟩
                                have n14_ : Aside0 (Below w.heap.size w w60) := ⟨h14_⟩
                                clear HO_6
                                clear BK325
                                clear HB
                                clear h0_ h1_ h2_ h3_ h4_ h5_ h6_ h7_ h8_ h9_ h10_ h11_ h12_ h13_ h14_
                                have HO_6 := n0_
                                have BK325 := n1_
                                have BK348 := n2_
                                have BK349 := n3_
                                have GW348 := n4_
                                have GE348 := n5_
                                have NB325_348 := n6_
                                have NB348_325 := n7_
                                have NB349_348 := n8_
                                have NB348_349 := n9_
                                have GW349 := n10_
                                have GE349 := n11_
                                have NB325_349 := n12_
                                have NB349_325 := n13_
                                have HB := n14_
                                clear n0_ n1_ n2_ n3_ n4_ n5_ n6_ n7_ n8_ n9_ n10_ n11_ n12_ n13_ n14_
                                have hHeld : w60.cell? ⟨gb325, 0, none⟩ = some (.slice A0_0 l0_0.length c0_0) ∧ w60.cell? ⟨gb325, 1, none⟩ = some (.slice (some ad347) l0_1.length c0_1) ∧ w60.cell? (ad346.add ((x16_3).toNat * 10)) = some (.int .i64 ((rd_T45 t328 x16_3).f0)) ∧ w60.cell? ⟨(ad346.add ((x16_3).toNat * 10)).block, (ad346.add ((x16_3).toNat * 10)).off + 1, none⟩ = some (.int .i64 ((rd_T45 t328 x16_3).f1)) ∧ w60.cell? ⟨(ad346.add ((x16_3).toNat * 10)).block, (ad346.add ((x16_3).toNat * 10)).off + 2, none⟩ = some (.int .i64 ((rd_T45 t328 x16_3).f2)) ∧ w60.cell? ⟨(ad346.add ((x16_3).toNat * 10)).block, (ad346.add ((x16_3).toNat * 10)).off + 3, none⟩ = some (.int .i64 ((rd_T45 t328 x16_3).f3)) ∧ w60.cell? ⟨(ad346.add ((x16_3).toNat * 10)).block, (ad346.add ((x16_3).toNat * 10)).off + 4, none⟩ = some (.int .i64 ((rd_T45 t328 x16_3).f4)) ∧ w60.cell? ⟨(ad346.add ((x16_3).toNat * 10)).block, (ad346.add ((x16_3).toNat * 10)).off + 5, none⟩ = some (.string ((rd_T45 t328 x16_3).f5)) ∧ w60.cell? ⟨(ad346.add ((x16_3).toNat * 10)).block, (ad346.add ((x16_3).toNat * 10)).off + 6, none⟩ = some (.string ((rd_T45 t328 x16_3).f6)) ∧ w60.cell? ⟨(ad346.add ((x16_3).toNat * 10)).block, (ad346.add ((x16_3).toNat * 10)).off + 7, none⟩ = some (.string ((rd_T45 t328 x16_3).f7)) ∧ w60.cell? ⟨(ad346.add ((x16_3).toNat * 10)).block, (ad346.add ((x16_3).toNat * 10)).off + 8, none⟩ = some (.string ((rd_T45 t328 x16_3).f8)) ∧ w60.cell? ⟨(ad346.add ((x16_3).toNat * 10)).block, (ad346.add ((x16_3).toNat * 10)).off + 9, none⟩ = some (.int .i64 ((rd_T45 t328 x16_3).f9)) ∧ w60.cell? (ad347.add (((ji53)).toNat * 10)) = some (.int .i64 ((rd_T45 l0_1 (ji53)).f0)) ∧ w60.cell? ⟨(ad347.add (((ji53)).toNat * 10)).block, (ad347.add (((ji53)).toNat * 10)).off + 1, none⟩ = some (.int .i64 ((rd_T45 l0_1 (ji53)).f1)) ∧ w60.cell? ⟨(ad347.add (((ji53)).toNat * 10)).block, (ad347.add (((ji53)).toNat * 10)).off + 2, none⟩ = some (.int .i64 ((rd_T45 l0_1 (ji53)).f2)) ∧ w60.cell? ⟨(ad347.add (((ji53)).toNat * 10)).block, (ad347.add (((ji53)).toNat * 10)).off + 3, none⟩ = some (.int .i64 ((rd_T45 l0_1 (ji53)).f3)) ∧ w60.cell? ⟨(ad347.add (((ji53)).toNat * 10)).block, (ad347.add (((ji53)).toNat * 10)).off + 4, none⟩ = some (.int .i64 ((rd_T45 l0_1 (ji53)).f4)) ∧ w60.cell? ⟨(ad347.add (((ji53)).toNat * 10)).block, (ad347.add (((ji53)).toNat * 10)).off + 5, none⟩ = some (.string ((rd_T45 l0_1 (ji53)).f5)) ∧ w60.cell? ⟨(ad347.add (((ji53)).toNat * 10)).block, (ad347.add (((ji53)).toNat * 10)).off + 6, none⟩ = some (.string ((rd_T45 l0_1 (ji53)).f6)) ∧ w60.cell? ⟨(ad347.add (((ji53)).toNat * 10)).block, (ad347.add (((ji53)).toNat * 10)).off + 7, none⟩ = some (.string ((rd_T45 l0_1 (ji53)).f7)) ∧ w60.cell? ⟨(ad347.add (((ji53)).toNat * 10)).block, (ad347.add (((ji53)).toNat * 10)).off + 8, none⟩ = some (.string ((rd_T45 l0_1 (ji53)).f8)) ∧ w60.cell? ⟨(ad347.add (((ji53)).toNat * 10)).block, (ad347.add (((ji53)).toNat * 10)).off + 9, none⟩ = some (.int .i64 ((rd_T45 l0_1 (ji53)).f9)) := hS_
                                refine norm_ (a' := ?_) ?_ ?_
                                rotate_left
                                · simp only [putAll, Act.put, List.setIfInBounds_toArray, List.set_cons_zero, List.set_cons_succ]
                                  rfl
                                refine one_ (i := 17) (N := none) #[true, true, true, true, true, true, true, true, true, true, true, true, true, true, true, true, true, true, false] rfl rfl (one_of HT_.out (by kernel_rfl)) (by decide) (fun K hK => ?_)
                                have hs61 : w60.cell? ⟨gb348, 0, none⟩ = some (.int .i64 0) := (blk_cell BK348.out 0).trans rfl
                                have hfs61 := blk_frozen BK348.out 0
                                have hns61_0 := NB325_348.out
                                have hns61_2 := NB349_348.out
                                have hms61_0 := NB348_325.out
                                have hms61_2 := NB348_349.out
                                have hs62 : w60.cell? ⟨gb348, 1, none⟩ = some (.int .i64 0) := (blk_cell BK348.out 1).trans rfl
                                have hfs62 := blk_frozen BK348.out 1
                                have hns62_0 := NB325_348.out
                                have hns62_2 := NB349_348.out
                                have hms62_0 := NB348_325.out
                                have hms62_2 := NB348_349.out
                                have hs63 : w60.cell? ⟨gb348, 2, none⟩ = some (.int .i64 0) := (blk_cell BK348.out 2).trans rfl
                                have hfs63 := blk_frozen BK348.out 2
                                have hns63_0 := NB325_348.out
                                have hns63_2 := NB349_348.out
                                have hms63_0 := NB348_325.out
                                have hms63_2 := NB348_349.out
                                have hs64 : w60.cell? ⟨gb348, 3, none⟩ = some (.int .i64 0) := (blk_cell BK348.out 3).trans rfl
                                have hfs64 := blk_frozen BK348.out 3
                                have hns64_0 := NB325_348.out
                                have hns64_2 := NB349_348.out
                                have hms64_0 := NB348_325.out
                                have hms64_2 := NB348_349.out
                                have hs65 : w60.cell? ⟨gb348, 4, none⟩ = some (.int .i64 0) := (blk_cell BK348.out 4).trans rfl
                                have hfs65 := blk_frozen BK348.out 4
                                have hns65_0 := NB325_348.out
                                have hns65_2 := NB349_348.out
                                have hms65_0 := NB348_325.out
                                have hms65_2 := NB348_349.out
                                have hs66 : w60.cell? ⟨gb348, 5, none⟩ = some (.string (⟨#[]⟩ : ByteArray)) := (blk_cell BK348.out 5).trans rfl
                                have hfs66 := blk_frozen BK348.out 5
                                have hns66_0 := NB325_348.out
                                have hns66_2 := NB349_348.out
                                have hms66_0 := NB348_325.out
                                have hms66_2 := NB348_349.out
                                have hs67 : w60.cell? ⟨gb348, 6, none⟩ = some (.string (⟨#[]⟩ : ByteArray)) := (blk_cell BK348.out 6).trans rfl
                                have hfs67 := blk_frozen BK348.out 6
                                have hns67_0 := NB325_348.out
                                have hns67_2 := NB349_348.out
                                have hms67_0 := NB348_325.out
                                have hms67_2 := NB348_349.out
                                have hs68 : w60.cell? ⟨gb348, 7, none⟩ = some (.string (⟨#[]⟩ : ByteArray)) := (blk_cell BK348.out 7).trans rfl
                                have hfs68 := blk_frozen BK348.out 7
                                have hns68_0 := NB325_348.out
                                have hns68_2 := NB349_348.out
                                have hms68_0 := NB348_325.out
                                have hms68_2 := NB348_349.out
                                have hs69 : w60.cell? ⟨gb348, 8, none⟩ = some (.string (⟨#[]⟩ : ByteArray)) := (blk_cell BK348.out 8).trans rfl
                                have hfs69 := blk_frozen BK348.out 8
                                have hns69_0 := NB325_348.out
                                have hns69_2 := NB349_348.out
                                have hms69_0 := NB348_325.out
                                have hms69_2 := NB348_349.out
                                have hs70 : w60.cell? ⟨gb348, 9, none⟩ = some (.int .i64 0) := (blk_cell BK348.out 9).trans rfl
                                have hfs70 := blk_frozen BK348.out 9
                                have hns70_0 := NB325_348.out
                                have hns70_2 := NB349_348.out
                                have hms70_0 := NB348_325.out
                                have hms70_2 := NB348_349.out
                                refine skip_ (w1 := ?_) (by rfl) rfl ?_ ?_
                                rotate_left
                                · go_simp
                                  rfl
                                have cf_ : ∀ {W : World} {a : Addr} {v : Value} (j : Nat) (x : Value), a.block ≠ gb348 → W.cell? a = some v → (W.setCell ⟨gb348, j, none⟩ x).cell? a = some v := fun _ x h h2 => (cell_far (p := ⟨gb348, _, none⟩) h x).trans h2
                                have cf10_ : ∀ {W : World} {a : Addr} {v : Value} {j0 j1 j2 j3 j4 j5 j6 j7 j8 j9 : Nat} {x0 x1 x2 x3 x4 x5 x6 x7 x8 x9 : Value}, a.block ≠ gb348 → W.cell? a = some v → ((((((((((W.setCell ⟨gb348, j0, none⟩ x0).setCell ⟨gb348, j1, none⟩ x1).setCell ⟨gb348, j2, none⟩ x2).setCell ⟨gb348, j3, none⟩ x3).setCell ⟨gb348, j4, none⟩ x4).setCell ⟨gb348, j5, none⟩ x5).setCell ⟨gb348, j6, none⟩ x6).setCell ⟨gb348, j7, none⟩ x7).setCell ⟨gb348, j8, none⟩ x8).setCell ⟨gb348, j9, none⟩ x9).cell? a = some v := fun h h2 => cf_ _ _ h (cf_ _ _ h (cf_ _ _ h (cf_ _ _ h (cf_ _ _ h (cf_ _ _ h (cf_ _ _ h (cf_ _ _ h (cf_ _ _ h (cf_ _ _ h (h2))))))))))
                                have hb346_ : ∀ n : Nat, (ad346.add n).block ≠ gb348 := fun n => by rw [add_block]; exact Kd.own_blk (Kd.R_away HO_6.out (fun _ hk => hk.1))
                                have hb347_ : ∀ n : Nat, (ad347.add n).block ≠ gb348 := fun n => by rw [add_block]; exact Nat.ne_of_lt (Nat.lt_of_lt_of_le (by have := World.block_lt_of_cell? _ _ hw347_0; first | rwa [add_block] at this | exact this) GW348.out)
                                refine hK.out _ _ ?hst (fun hHeld => ?_)
                                case hst => exact ⟨(cf10_ (by exact NB325_348.out) (hHeld.1)), (cf10_ (by exact NB325_348.out) (hHeld.2.1)), (cf10_ (by exact hb346_ _) (hHeld.2.2.1)), (cf10_ (by exact hb346_ _) (hHeld.2.2.2.1)), (cf10_ (by exact hb346_ _) (hHeld.2.2.2.2.1)), (cf10_ (by exact hb346_ _) (hHeld.2.2.2.2.2.1)), (cf10_ (by exact hb346_ _) (hHeld.2.2.2.2.2.2.1)), (cf10_ (by exact hb346_ _) (hHeld.2.2.2.2.2.2.2.1)), (cf10_ (by exact hb346_ _) (hHeld.2.2.2.2.2.2.2.2.1)), (cf10_ (by exact hb346_ _) (hHeld.2.2.2.2.2.2.2.2.2.1)), (cf10_ (by exact hb346_ _) (hHeld.2.2.2.2.2.2.2.2.2.2.1)), (cf10_ (by exact hb346_ _) (hHeld.2.2.2.2.2.2.2.2.2.2.2.1)), (cf10_ (by exact hb347_ _) (hHeld.2.2.2.2.2.2.2.2.2.2.2.2.1)), (cf10_ (by exact hb347_ _) (hHeld.2.2.2.2.2.2.2.2.2.2.2.2.2.1)), (cf10_ (by exact hb347_ _) (hHeld.2.2.2.2.2.2.2.2.2.2.2.2.2.2.1)), (cf10_ (by exact hb347_ _) (hHeld.2.2.2.2.2.2.2.2.2.2.2.2.2.2.2.1)), (cf10_ (by exact hb347_ _) (hHeld.2.2.2.2.2.2.2.2.2.2.2.2.2.2.2.2.1)), (cf10_ (by exact hb347_ _) (hHeld.2.2.2.2.2.2.2.2.2.2.2.2.2.2.2.2.2.1)), (cf10_ (by exact hb347_ _) (hHeld.2.2.2.2.2.2.2.2.2.2.2.2.2.2.2.2.2.2.1)), (cf10_ (by exact hb347_ _) (hHeld.2.2.2.2.2.2.2.2.2.2.2.2.2.2.2.2.2.2.2.1)), (cf10_ (by exact hb347_ _) (hHeld.2.2.2.2.2.2.2.2.2.2.2.2.2.2.2.2.2.2.2.2.1)), (cf10_ (by exact hb347_ _) (hHeld.2.2.2.2.2.2.2.2.2.2.2.2.2.2.2.2.2.2.2.2.2))⟩
                                clear hK K
                                obtain ⟨w61, hw_⟩ := hide_ hHeld.1
                                have n0_ : Aside0 (Kd.R k45 45 w61 w.heap.size (fun k_ => k_ ≠ gb348 ∧ k_ ≠ gb349) (.slice (some ad346) t328.length co47) t328) := ⟨by rw [← hw_]; exact set10_R (x := rd_T45 t328 x16_3) (g := gb348) HO_6.out (fun _ hk => hk.1)⟩
                                have n1_ : Aside0 (w61.heap[gb325]? = some (.cells #[.slice A0_0 l0_0.length c0_0, .slice (some ad347) l0_1.length c0_1] 25 (0, 0))) := ⟨by rw [← hw_]; exact set10_far (x := rd_T45 t328 x16_3) BK325.out NB325_348.out⟩
                                have n2_ : Aside0 (w61.heap[gb348]? = some (.cells #[.int .i64 (rd_T45 t328 x16_3).f0, .int .i64 (rd_T45 t328 x16_3).f1, .int .i64 (rd_T45 t328 x16_3).f2, .int .i64 (rd_T45 t328 x16_3).f3, .int .i64 (rd_T45 t328 x16_3).f4, .string (rd_T45 t328 x16_3).f5, .string (rd_T45 t328 x16_3).f6, .string (rd_T45 t328 x16_3).f7, .string (rd_T45 t328 x16_3).f8, .int .i64 (rd_T45 t328 x16_3).f9] 45 (0, 0))) := ⟨by rw [← hw_]; exact set10_blk (x := rd_T45 t328 x16_3) BK348.out⟩
                                have n3_ : Aside0 (w61.heap[gb349]? = some (.cells #[.int .i64 0, .int .i64 0, .int .i64 0, .int .i64 0, .int .i64 0, .string (⟨#[]⟩ : ByteArray), .string (⟨#[]⟩ : ByteArray), .string (⟨#[]⟩ : ByteArray), .string (⟨#[]⟩ : ByteArray), .int .i64 0] 45 (0, 0))) := ⟨by rw [← hw_]; exact set10_far (x := rd_T45 t328 x16_3) BK349.out NB349_348.out⟩
                                have n14_ : Aside0 (Below w.heap.size w w61) := ⟨by rw [← hw_]; exact set10_below (x := rd_T45 t328 x16_3) HB.out GE348.out⟩
                                rw [hw_] at hHeld ⊢
                                clear hw_ HO_6 BK325 BK348 BK349 HB
                                have HO_6 := n0_
                                have BK325 := n1_
                                have BK348 := n2_
                                have BK349 := n3_
                                have HB := n14_
                                clear n0_ n1_ n2_ n3_ n14_
                                refine one_ (i := 18) (N := none) #[true, true, true, true, true, true, true, true, true, true, true, true, true, true, true, true, true, true, true] rfl rfl (one_of HT_.out (by kernel_rfl)) (by decide) (fun K hK => ?_)
                                have hs71 : w61.cell? ⟨gb349, 0, none⟩ = some (.int .i64 0) := (blk_cell BK349.out 0).trans rfl
                                have hfs71 := blk_frozen BK349.out 0
                                have hns71_0 := NB325_349.out
                                have hns71_1 := NB348_349.out
                                have hms71_0 := NB349_325.out
                                have hms71_1 := NB349_348.out
                                have hs72 : w61.cell? ⟨gb349, 1, none⟩ = some (.int .i64 0) := (blk_cell BK349.out 1).trans rfl
                                have hfs72 := blk_frozen BK349.out 1
                                have hns72_0 := NB325_349.out
                                have hns72_1 := NB348_349.out
                                have hms72_0 := NB349_325.out
                                have hms72_1 := NB349_348.out
                                have hs73 : w61.cell? ⟨gb349, 2, none⟩ = some (.int .i64 0) := (blk_cell BK349.out 2).trans rfl
                                have hfs73 := blk_frozen BK349.out 2
                                have hns73_0 := NB325_349.out
                                have hns73_1 := NB348_349.out
                                have hms73_0 := NB349_325.out
                                have hms73_1 := NB349_348.out
                                have hs74 : w61.cell? ⟨gb349, 3, none⟩ = some (.int .i64 0) := (blk_cell BK349.out 3).trans rfl
                                have hfs74 := blk_frozen BK349.out 3
                                have hns74_0 := NB325_349.out
                                have hns74_1 := NB348_349.out
                                have hms74_0 := NB349_325.out
                                have hms74_1 := NB349_348.out
                                have hs75 : w61.cell? ⟨gb349, 4, none⟩ = some (.int .i64 0) := (blk_cell BK349.out 4).trans rfl
                                have hfs75 := blk_frozen BK349.out 4
                                have hns75_0 := NB325_349.out
                                have hns75_1 := NB348_349.out
                                have hms75_0 := NB349_325.out
                                have hms75_1 := NB349_348.out
                                have hs76 : w61.cell? ⟨gb349, 5, none⟩ = some (.string (⟨#[]⟩ : ByteArray)) := (blk_cell BK349.out 5).trans rfl
                                have hfs76 := blk_frozen BK349.out 5
                                have hns76_0 := NB325_349.out
                                have hns76_1 := NB348_349.out
                                have hms76_0 := NB349_325.out
                                have hms76_1 := NB349_348.out
                                have hs77 : w61.cell? ⟨gb349, 6, none⟩ = some (.string (⟨#[]⟩ : ByteArray)) := (blk_cell BK349.out 6).trans rfl
                                have hfs77 := blk_frozen BK349.out 6
                                have hns77_0 := NB325_349.out
                                have hns77_1 := NB348_349.out
                                have hms77_0 := NB349_325.out
                                have hms77_1 := NB349_348.out
                                have hs78 : w61.cell? ⟨gb349, 7, none⟩ = some (.string (⟨#[]⟩ : ByteArray)) := (blk_cell BK349.out 7).trans rfl
                                have hfs78 := blk_frozen BK349.out 7
                                have hns78_0 := NB325_349.out
                                have hns78_1 := NB348_349.out
                                have hms78_0 := NB349_325.out
                                have hms78_1 := NB349_348.out
                                have hs79 : w61.cell? ⟨gb349, 8, none⟩ = some (.string (⟨#[]⟩ : ByteArray)) := (blk_cell BK349.out 8).trans rfl
                                have hfs79 := blk_frozen BK349.out 8
                                have hns79_0 := NB325_349.out
                                have hns79_1 := NB348_349.out
                                have hms79_0 := NB349_325.out
                                have hms79_1 := NB349_348.out
                                have hs80 : w61.cell? ⟨gb349, 9, none⟩ = some (.int .i64 0) := (blk_cell BK349.out 9).trans rfl
                                have hfs80 := blk_frozen BK349.out 9
                                have hns80_0 := NB325_349.out
                                have hns80_1 := NB348_349.out
                                have hms80_0 := NB349_325.out
                                have hms80_1 := NB349_348.out
                                refine skip_ (w1 := ?_) (by rfl) rfl ?_ ?_
                                rotate_left
                                · go_simp
                                  rfl
                                have cf_ : ∀ {W : World} {a : Addr} {v : Value} (j : Nat) (x : Value), a.block ≠ gb349 → W.cell? a = some v → (W.setCell ⟨gb349, j, none⟩ x).cell? a = some v := fun _ x h h2 => (cell_far (p := ⟨gb349, _, none⟩) h x).trans h2
                                have cf10_ : ∀ {W : World} {a : Addr} {v : Value} {j0 j1 j2 j3 j4 j5 j6 j7 j8 j9 : Nat} {x0 x1 x2 x3 x4 x5 x6 x7 x8 x9 : Value}, a.block ≠ gb349 → W.cell? a = some v → ((((((((((W.setCell ⟨gb349, j0, none⟩ x0).setCell ⟨gb349, j1, none⟩ x1).setCell ⟨gb349, j2, none⟩ x2).setCell ⟨gb349, j3, none⟩ x3).setCell ⟨gb349, j4, none⟩ x4).setCell ⟨gb349, j5, none⟩ x5).setCell ⟨gb349, j6, none⟩ x6).setCell ⟨gb349, j7, none⟩ x7).setCell ⟨gb349, j8, none⟩ x8).setCell ⟨gb349, j9, none⟩ x9).cell? a = some v := fun h h2 => cf_ _ _ h (cf_ _ _ h (cf_ _ _ h (cf_ _ _ h (cf_ _ _ h (cf_ _ _ h (cf_ _ _ h (cf_ _ _ h (cf_ _ _ h (cf_ _ _ h (h2))))))))))
                                have hb346_ : ∀ n : Nat, (ad346.add n).block ≠ gb349 := fun n => by rw [add_block]; exact Kd.own_blk (Kd.R_away HO_6.out (fun _ hk => hk.2))
                                have hb347_ : ∀ n : Nat, (ad347.add n).block ≠ gb349 := fun n => by rw [add_block]; exact Nat.ne_of_lt (Nat.lt_of_lt_of_le (by have := World.block_lt_of_cell? _ _ hw347_0; first | rwa [add_block] at this | exact this) GW349.out)
                                refine hK.out _ _ ?hst (fun hHeld => ?_)
                                case hst => exact ⟨(cf10_ (by exact NB325_349.out) (hHeld.1)), (cf10_ (by exact NB325_349.out) (hHeld.2.1)), (cf10_ (by exact hb346_ _) (hHeld.2.2.1)), (cf10_ (by exact hb346_ _) (hHeld.2.2.2.1)), (cf10_ (by exact hb346_ _) (hHeld.2.2.2.2.1)), (cf10_ (by exact hb346_ _) (hHeld.2.2.2.2.2.1)), (cf10_ (by exact hb346_ _) (hHeld.2.2.2.2.2.2.1)), (cf10_ (by exact hb346_ _) (hHeld.2.2.2.2.2.2.2.1)), (cf10_ (by exact hb346_ _) (hHeld.2.2.2.2.2.2.2.2.1)), (cf10_ (by exact hb346_ _) (hHeld.2.2.2.2.2.2.2.2.2.1)), (cf10_ (by exact hb346_ _) (hHeld.2.2.2.2.2.2.2.2.2.2.1)), (cf10_ (by exact hb346_ _) (hHeld.2.2.2.2.2.2.2.2.2.2.2.1)), (cf10_ (by exact hb347_ _) (hHeld.2.2.2.2.2.2.2.2.2.2.2.2.1)), (cf10_ (by exact hb347_ _) (hHeld.2.2.2.2.2.2.2.2.2.2.2.2.2.1)), (cf10_ (by exact hb347_ _) (hHeld.2.2.2.2.2.2.2.2.2.2.2.2.2.2.1)), (cf10_ (by exact hb347_ _) (hHeld.2.2.2.2.2.2.2.2.2.2.2.2.2.2.2.1)), (cf10_ (by exact hb347_ _) (hHeld.2.2.2.2.2.2.2.2.2.2.2.2.2.2.2.2.1)), (cf10_ (by exact hb347_ _) (hHeld.2.2.2.2.2.2.2.2.2.2.2.2.2.2.2.2.2.1)), (cf10_ (by exact hb347_ _) (hHeld.2.2.2.2.2.2.2.2.2.2.2.2.2.2.2.2.2.2.1)), (cf10_ (by exact hb347_ _) (hHeld.2.2.2.2.2.2.2.2.2.2.2.2.2.2.2.2.2.2.2.1)), (cf10_ (by exact hb347_ _) (hHeld.2.2.2.2.2.2.2.2.2.2.2.2.2.2.2.2.2.2.2.2.1)), (cf10_ (by exact hb347_ _) (hHeld.2.2.2.2.2.2.2.2.2.2.2.2.2.2.2.2.2.2.2.2.2))⟩
                                clear hK K
                                obtain ⟨w62, hw_⟩ := hide_ hHeld.1
                                have n0_ : Aside0 (Kd.R k45 45 w62 w.heap.size (fun k_ => k_ ≠ gb348 ∧ k_ ≠ gb349) (.slice (some ad346) t328.length co47) t328) := ⟨by rw [← hw_]; exact set10_R (x := rd_T45 l0_1 ji53) (g := gb349) HO_6.out (fun _ hk => hk.2)⟩
                                have n1_ : Aside0 (w62.heap[gb325]? = some (.cells #[.slice A0_0 l0_0.length c0_0, .slice (some ad347) l0_1.length c0_1] 25 (0, 0))) := ⟨by rw [← hw_]; exact set10_far (x := rd_T45 l0_1 ji53) BK325.out NB325_349.out⟩
                                have n2_ : Aside0 (w62.heap[gb348]? = some (.cells #[.int .i64 (rd_T45 t328 x16_3).f0, .int .i64 (rd_T45 t328 x16_3).f1, .int .i64 (rd_T45 t328 x16_3).f2, .int .i64 (rd_T45 t328 x16_3).f3, .int .i64 (rd_T45 t328 x16_3).f4, .string (rd_T45 t328 x16_3).f5, .string (rd_T45 t328 x16_3).f6, .string (rd_T45 t328 x16_3).f7, .string (rd_T45 t328 x16_3).f8, .int .i64 (rd_T45 t328 x16_3).f9] 45 (0, 0))) := ⟨by rw [← hw_]; exact set10_far (x := rd_T45 l0_1 ji53) BK348.out NB348_349.out⟩
                                have n3_ : Aside0 (w62.heap[gb349]? = some (.cells #[.int .i64 (rd_T45 l0_1 ji53).f0, .int .i64 (rd_T45 l0_1 ji53).f1, .int .i64 (rd_T45 l0_1 ji53).f2, .int .i64 (rd_T45 l0_1 ji53).f3, .int .i64 (rd_T45 l0_1 ji53).f4, .string (rd_T45 l0_1 ji53).f5, .string (rd_T45 l0_1 ji53).f6, .string (rd_T45 l0_1 ji53).f7, .string (rd_T45 l0_1 ji53).f8, .int .i64 (rd_T45 l0_1 ji53).f9] 45 (0, 0))) := ⟨by rw [← hw_]; exact set10_blk (x := rd_T45 l0_1 ji53) BK349.out⟩
                                have n14_ : Aside0 (Below w.heap.size w w62) := ⟨by rw [← hw_]; exact set10_below (x := rd_T45 l0_1 ji53) HB.out GE349.out⟩
                                rw [hw_] at hHeld ⊢
                                clear hw_ HO_6 BK325 BK348 BK349 HB
                                have HO_6 := n0_
                                have BK325 := n1_
                                have BK348 := n2_
                                have BK349 := n3_
                                have HB := n14_
                                clear n0_ n1_ n2_ n3_ n14_
                                refine done_ (done_of HT_.out (by kernel_rfl)) ?_
                                have hnb81 := NB349_325.out
                                have hnc81 := NB325_349.out
                                have hnb82 := NB349_348.out
                                have hnc82 := NB348_349.out
                                have hcz83_0 : w62.cell? ⟨gb349, 0, none⟩ = some (.int .i64 (rd_T45 l0_1 ji53).f0) := (blk_cell BK349.out 0).trans rfl
                                have hcz83_1 : w62.cell? ⟨gb349, 1, none⟩ = some (.int .i64 (rd_T45 l0_1 ji53).f1) := (blk_cell BK349.out 1).trans rfl
                                have hcz83_2 : w62.cell? ⟨gb349, 2, none⟩ = some (.int .i64 (rd_T45 l0_1 ji53).f2) := (blk_cell BK349.out 2).trans rfl
                                have hcz83_3 : w62.cell? ⟨gb349, 3, none⟩ = some (.int .i64 (rd_T45 l0_1 ji53).f3) := (blk_cell BK349.out 3).trans rfl
                                have hcz83_4 : w62.cell? ⟨gb349, 4, none⟩ = some (.int .i64 (rd_T45 l0_1 ji53).f4) := (blk_cell BK349.out 4).trans rfl
                                have hcz83_5 : w62.cell? ⟨gb349, 5, none⟩ = some (.string (rd_T45 l0_1 ji53).f5) := (blk_cell BK349.out 5).trans rfl
                                have hcz83_6 : w62.cell? ⟨gb349, 6, none⟩ = some (.string (rd_T45 l0_1 ji53).f6) := (blk_cell BK349.out 6).trans rfl
                                have hcz83_7 : w62.cell? ⟨gb349, 7, none⟩ = some (.string (rd_T45 l0_1 ji53).f7) := (blk_cell BK349.out 7).trans rfl
                                have hcz83_8 : w62.cell? ⟨gb349, 8, none⟩ = some (.string (rd_T45 l0_1 ji53).f8) := (blk_cell BK349.out 8).trans rfl
                                have hcz83_9 : w62.cell? ⟨gb349, 9, none⟩ = some (.int .i64 (rd_T45 l0_1 ji53).f9) := (blk_cell BK349.out 9).trans rfl
                                have hfz83_0 := blk_frozen BK349.out 0
                                have hfz83_1 := blk_frozen BK349.out 1
                                have hfz83_2 := blk_frozen BK349.out 2
                                have hfz83_3 := blk_frozen BK349.out 3
                                have hfz83_4 := blk_frozen BK349.out 4
                                have hfz83_5 := blk_frozen BK349.out 5
                                have hfz83_6 := blk_frozen BK349.out 6
                                have hfz83_7 := blk_frozen BK349.out 7
                                have hfz83_8 := blk_frozen BK349.out 8
                                have hfz83_9 := blk_frozen BK349.out 9
                                have hnb84 := NB348_325.out
                                have hnc84 := NB325_348.out
                                have hcz85_0 : w62.cell? ⟨gb348, 0, none⟩ = some (.int .i64 (rd_T45 t328 x16_3).f0) := (blk_cell BK348.out 0).trans rfl
                                have hcz85_1 : w62.cell? ⟨gb348, 1, none⟩ = some (.int .i64 (rd_T45 t328 x16_3).f1) := (blk_cell BK348.out 1).trans rfl
                                have hcz85_2 : w62.cell? ⟨gb348, 2, none⟩ = some (.int .i64 (rd_T45 t328 x16_3).f2) := (blk_cell BK348.out 2).trans rfl
                                have hcz85_3 : w62.cell? ⟨gb348, 3, none⟩ = some (.int .i64 (rd_T45 t328 x16_3).f3) := (blk_cell BK348.out 3).trans rfl
                                have hcz85_4 : w62.cell? ⟨gb348, 4, none⟩ = some (.int .i64 (rd_T45 t328 x16_3).f4) := (blk_cell BK348.out 4).trans rfl
                                have hcz85_5 : w62.cell? ⟨gb348, 5, none⟩ = some (.string (rd_T45 t328 x16_3).f5) := (blk_cell BK348.out 5).trans rfl
                                have hcz85_6 : w62.cell? ⟨gb348, 6, none⟩ = some (.string (rd_T45 t328 x16_3).f6) := (blk_cell BK348.out 6).trans rfl
                                have hcz85_7 : w62.cell? ⟨gb348, 7, none⟩ = some (.string (rd_T45 t328 x16_3).f7) := (blk_cell BK348.out 7).trans rfl
                                have hcz85_8 : w62.cell? ⟨gb348, 8, none⟩ = some (.string (rd_T45 t328 x16_3).f8) := (blk_cell BK348.out 8).trans rfl
                                have hcz85_9 : w62.cell? ⟨gb348, 9, none⟩ = some (.int .i64 (rd_T45 t328 x16_3).f9) := (blk_cell BK348.out 9).trans rfl
                                have hfz85_0 := blk_frozen BK348.out 0
                                have hfz85_1 := blk_frozen BK348.out 1
                                have hfz85_2 := blk_frozen BK348.out 2
                                have hfz85_3 := blk_frozen BK348.out 3
                                have hfz85_4 := blk_frozen BK348.out 4
                                have hfz85_5 := blk_frozen BK348.out 5
                                have hfz85_6 := blk_frozen BK348.out 6
                                have hfz85_7 := blk_frozen BK348.out 7
                                have hfz85_8 := blk_frozen BK348.out 8
                                have hfz85_9 := blk_frozen BK348.out 9
                                try go_wp2
                                go_roundg k3
                                case measure => have := HJ4.out; have := HJ19.out; have := HK3.out; omega
                                case rel => exact ⟨(wrap64 (x16_3 + 1)), (by first | rfl | (simp; done) | (simp [*]; done)), H', ⟨by have := HJ4.out; have := HJ19.out; have := HK3.out; omega⟩, ⟨by (with_reducible repeat (first | apply Kd.R_alloc | apply Kd.R_drewN | apply Kd.R_drew)); exact Kd.R_mono (Kd.R_far (p := ⟨gb348, 3, none⟩) (Kd.R_far (p := ⟨gb348, 2, none⟩) (Kd.R_far (p := ⟨gb348, 1, none⟩) HO_6.out (fun _ hk => hk.1) (.int .i64 (rd_T45 l0_1 ji53).f1)) (fun _ hk => hk.1) (.int .i64 (rd_T45 l0_1 ji53).f2)) (fun _ hk => hk.1) (.int .i64 (rd_T45 l0_1 ji53).f3)) (fun _ hk => trivial)⟩, ⟨by refine blk_far ?_ NB325_348.out _; refine blk_far ?_ NB325_348.out _; refine blk_far ?_ NB325_348.out _; exact BK325.out⟩, ⟨by repeat (first | (with_reducible first | exact HB.out | apply below_alloc | apply pw_below_drewN | apply below_drew1 | refine below_set ?_ GE325.out | refine below_set ?_ GE348.out | refine below_set ?_ GE349.out) | exact HB.out)⟩⟩
                            · rw [if_neg c55] at H
                              exact absurd H (by simp)
                          · rw [if_neg c54] at H
                            exact absurd H (by simp)
                        · rw [if_neg c52] at H
                          exact absurd H (by simp)
                      · rw [if_neg c51] at H
                        have c51b0 : decide (x16_3 < (t328.length : Int)) = false := decide_eq_false c51
                        clear c51
                        replace H := Option.bind_eq_some_iff.mp H
                        obtain ⟨t350, A860, H⟩ := H
                        (try dsimp only at H)
                        have A86 := Aside0.mk A860
                        clear A860
                        by_cases c87 : t350 = 0
                        · rw [if_pos c87] at H
                          have c87b0 : (t350 == 0) = true := beq_iff_eq.mpr c87
                          have c87b1 : (t350 != 0) = false := bne_eq_false_iff_eq.mpr c87
                          clear c87
                          by_cases c88 : t342 = t336
                          · rw [if_pos c88] at H
                            have c88b0 : (t342 == t336) = true := beq_iff_eq.mpr c88
                            have c88b1 : (t342 != t336) = false := bne_eq_false_iff_eq.mpr c88
                            clear c88
                            replace H := Option.bind_eq_some_iff.mp H
                            obtain ⟨t351, A890, H⟩ := H
                            (try dsimp only at H)
                            have A89 := Aside0.mk A890
                            clear A890
                            by_cases c90 : t351 = 0
                            · rw [if_pos c90] at H
                              have c90b0 : (t351 == 0) = true := beq_iff_eq.mpr c90
                              have c90b1 : (t351 != 0) = false := bne_eq_false_iff_eq.mpr c90
                              clear c90
                              by_cases c91 : t336 ≤ t344
                              · rw [if_pos c91] at H
                                have c91b0 : decide (t336 ≤ t344) = true := decide_eq_true c91
                                clear c91
                                replace H := Option.bind_eq_some_iff.mp H
                                obtain ⟨t352, A920, H⟩ := H
                                (try dsimp only at H)
                                have A92 := Aside0.mk A920
                                clear A920
                                obtain rfl := Option.some.inj H
                                go_wp2_with (first | ((with_reducible refine gate_callee (f := 18) rfl ?_); refine goesL_ (some 146) rfl rfl Tryd.func18 (by kernel_rfl) rfl #[.int .i64 t343] rfl (by (try simp only [List.map_toArray, List.map_cons, List.map_nil]); first | done | rfl | (simp only [List.length_drop, List.length_take]; rfl)) ?_; (with_reducible refine (trammellaw0_Num.calls t343 t350 _ A86.out).mono ?_); rintro e w' ⟨rfl, ⟨nd, rfl⟩⟩; refine ⟨_, rfl, ?_⟩) | (go_at_call 18; (with_reducible refine (trammellaw0_Num.calls t345 t351 _ A89.out).mono ?_); rintro e w' ⟨rfl, ⟨nd, rfl⟩⟩) | (go_at_call 20; (refine (tree_May.calls k3 _ _ ([] : List (S48)) _ _ t328 t352 _ ?side1 ?side2 ?side3 ?side4 A92.out).mono ?_); (case side1 => exact Kd.C_nil _ _); (case side2 => exact Nat.le_refl _); (case side3 => repeat (first | (with_reducible refine Kd.C_alloc ?_ _) | (with_reducible refine Kd.C_drewN ?_ _) | (with_reducible refine Kd.C_drew ?_) | exact (Kd.R_reads' HO_6.out).2.2)); (case side4 => exact (Kd.R_reads' HO_6.out).2.1); rintro e w93 ⟨rfl, hb⟩; have n0_ := Aside0.mk (Kd.R_below (by (with_reducible repeat (first | apply Kd.R_alloc | apply Kd.R_drewN | apply Kd.R_drew)); exact HO_6.out) hb); have n1_ := Aside0.mk (blk_below (g := gb325) (o := .cells #[.slice A0_0 l0_0.length c0_0, .slice A0_1 l0_1.length c0_1] 25 (0, 0)) (by (with_reducible repeat (first | refine blk_drewN ?_ _ | refine blk_drew ?_ | refine blk_alloc ?_ _)); exact BK325.out) hb); have n2_ := Aside0.mk (below_step (by repeat (first | (with_reducible first | exact HB.out | apply below_alloc | apply pw_below_drewN | apply below_drew1 | refine below_set ?_ GE325.out) | exact HB.out)) hb); clear HO_6; clear BK325; clear HB; have HO_6 := n0_; have BK325 := n1_; have HB := n2_; clear n0_ n1_ n2_; (try clear hb); (try clear hb2); (try clear hk); (try clear hi)))
                                go_ret
                                exact ⟨by first | rfl | (simp [errW_none, errW_some] <;> rfl) | (simp [*, errW_none, errW_some] <;> rfl), by repeat (first | (with_reducible first | exact HB.out | apply below_alloc | apply pw_below_drewN | apply below_drew1 | refine below_set ?_ GE325.out) | exact HB.out)⟩
                              · rw [if_neg c91] at H
                                have c91b0 : decide (t336 ≤ t344) = false := decide_eq_false c91
                                clear c91
                                exact absurd ((Option.some.inj H).trans HTRUE.out) (by decide)
                            · rw [if_neg c90] at H
                              have c90b0 : (t351 == 0) = false := beq_eq_false_iff_ne.mpr c90
                              have c90b1 : (t351 != 0) = true := bne_iff_ne.mpr c90
                              exact absurd ((Option.some.inj H).trans HTRUE.out) (by decide)
                          · rw [if_neg c88] at H
                            have c88b0 : (t342 == t336) = false := beq_eq_false_iff_ne.mpr c88
                            have c88b1 : (t342 != t336) = true := bne_iff_ne.mpr c88
                            exact absurd ((Option.some.inj H).trans HTRUE.out) (by decide)
                        · rw [if_neg c87] at H
                          have c87b0 : (t350 == 0) = false := beq_eq_false_iff_ne.mpr c87
                          have c87b1 : (t350 != 0) = true := bne_iff_ne.mpr c87
                          exact absurd ((Option.some.inj H).trans HTRUE.out) (by decide)
  · replace c4 := Bool.eq_false_iff.mpr c4
    subst c4
    have H1 := (if_neg (show ¬ (false = true) by decide)).symm.trans H
    clear H
    have H := H1
    clear H1
    exact absurd ((Option.some.inj H).trans HTRUE.out) (by decide)

end Go.Proofs.YtnogfhhfklkbiaaDoor.H
