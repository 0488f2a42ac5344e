/- Several texts in one: contracts of functions of the program, and what they lean on. In part written by a program of this session over the kit's print, in part by hand. -/
import Derived.Test.YtnogfhhfklkbiaaDoorYTrees2
import Derived.Test.YtnogfhhfklkbiaaDoorYTrees9
import Derived.Test.YtnogfhhfklkbiaaDoorYTrees3
import Derived.Test.YtnogfhhfklkbiaaDoorYTrees8
import Derived.Test.YtnogfhhfklkbiaaDoorYTrees7
import Derived.Test.YtnogfhhfklkbiaaDoorYTrees6
namespace Go.Proofs.YtnogfhhfklkbiaaDoor.H
open Go.RowKit Go.Proofs.YtnogfhhfklkbiaaDoorW.PrintWords Go.Proofs.YtnogfhhfklkbiaaDoorW.PrintLast Go.Proofs.YtnogfhhfklkbiaaDoorW.PrintMore
attribute [local go_sem] max2_int min2_int max_two min_two max_three min_three max_four min_four
set_option linter.unusedVariables false
set_option linter.unusedSimpArgs false
def tree_May.f (k : Nat) (l0_0 : List (S48)) (l0_1 : List (S45)) : Option (Bool) := (tree_OpsMay.f k l0_0).bind fun t288 => (if t288 = true then ((tree_Shaped.f k l0_1 true).bind fun t289 => (some t289)) else (some false))
theorem tree_May.mono : ∀ a0 a1 k, LeO (tree_May.f k a0 a1) (tree_May.f (k + 1) a0 a1) := by
  intro a0 a1 k
  unfold tree_May.f
  repeat' first
      | (with_reducible exact tree_OpsMay.mono _ _)
      | (with_reducible exact tree_Shaped.mono _ _ _)
      | (with_reducible exact LeO.refl _)
      | (with_reducible exact LeO.none _)
      | (with_reducible refine LeO.ite ?_ ?_)
      | (with_reducible refine LeO.bind ?_ (fun _ => ?_))
      | exact tree_OpsMay.mono _ _
      | exact tree_Shaped.mono _ _ _
      | exact LeO.none _
      | refine LeO.ite ?_ ?_
      | refine LeO.bind ?_ (fun _ => ?_)
set_option maxHeartbeats 8000000 in
set_option maxRecDepth 100000 in
theorem tree_May.calls (k : Nat) (A0_0 : Option Addr) (c0_0 : Nat) (l0_0 : List (S48)) (A0_1 : Option Addr) (c0_1 : Nat) (l0_1 : List (S45)) (r : Bool) (w : World) (hr0_0 : Kd.C k48 w A0_0 l0_0.length l0_0) (hc0_0 : l0_0.length ≤ c0_0) (hr0_1 : Kd.C k45 w A0_1 l0_1.length l0_1) (hc0_1 : l0_1.length ≤ c0_1) (h : tree_May.f k l0_0 l0_1 = some r) :
    Calls Tryd.prog 20 #[.agg #[.slice A0_0 l0_0.length c0_0, .slice A0_1 l0_1.length c0_1]] w fun e w' => e = .returned (.bool r) ∧ Below w.heap.size w w' := by
  have hu25 := Tryd.underlying25
  have HR0_0 := Aside0.mk hr0_0
  have HC0_0 := Aside0.mk hc0_0
  clear hr0_0 hc0_0
  have HR0_1 := Aside0.mk hr0_1
  have HC0_1 := Aside0.mk hc0_1
  clear hr0_1 hc0_1
  have HB := Aside0.mk (Below.refl w.heap.size w)
  have H : ((tree_OpsMay.f k l0_0).bind fun t288 => (if t288 = true then ((tree_Shaped.f k l0_1 true).bind fun t289 => (some t289)) else (some false))) = some r := h
  clear h
  replace H := Option.bind_eq_some_iff.mp H
  obtain ⟨t288, A20, H⟩ := H
  replace H : (if t288 = true then ((tree_Shaped.f k l0_1 true).bind fun t289 => (some t289)) else (some false)) = some r := H
  have A2 := Aside0.mk A20
  clear A20
  by_cases c3 : t288 = true
  · subst c3
    have H1 : ((tree_Shaped.f k l0_1 true).bind fun t289 => (some t289)) = some r := by rw [if_pos rfl] at H; exact H
    clear H
    have H := H1
    clear H1
    replace H := Option.bind_eq_some_iff.mp H
    obtain ⟨t289, A40, H⟩ := H
    replace H : (some t289) = some r := H
    have A4 := Aside0.mk A40
    clear A40
    obtain rfl := Option.some.inj H
    go_enter Tryd.func20, Tryd.ntmps20
    go_wp2_with (first | ((with_reducible refine gate_dst (N := 1) rfl ?_); refine box_event ?hg (N := 1) ?hd (cs := #[.slice A0_0 l0_0.length c0_0, .slice A0_1 l0_1.length c0_1]) (t := 25) ?hr ?_; (case hd => rfl); (case hg => rfl); (case hr => first | (go_simp; done) | (go_simp; rfl)); intro gb287 hg w5 hbox hb; have n0_ := Aside0.mk (below_step (by repeat (first | (with_reducible first | exact HB.out | apply below_alloc | apply pw_below_drewN | apply below_drew1) | exact HB.out)) hb); have n1_ := Aside0.mk (hbox); have n2_ := Aside0.mk ((by rw [hg]; exact (below_size (by repeat (first | (with_reducible first | exact HB.out | apply below_alloc | apply pw_below_drewN | apply below_drew1) | exact HB.out))) : w.heap.size ≤ gb287)); have n3_ := Aside0.mk ((by rw [hg]; exact (below_size (by repeat (first | (with_reducible first | exact HB.out | apply below_alloc | apply pw_below_drewN | apply below_drew1) | exact HB.out))) : w.heap.size ≤ gb287)); clear HB; have HB := n0_; have BK287 := n1_; have GW287 := n2_; have GE287 := n3_; clear n0_ n1_ n2_ n3_; clear hb hbox hg; have hcz6_0 : w5.cell? ⟨gb287, 0, none⟩ = some (.slice A0_0 l0_0.length c0_0) := (blk_cell BK287.out 0).trans rfl; have hcz6_1 : w5.cell? ⟨gb287, 1, none⟩ = some (.slice A0_1 l0_1.length c0_1) := (blk_cell BK287.out 1).trans rfl; have hfz6_0 := blk_frozen BK287.out 0; have hfz6_1 := blk_frozen BK287.out 1) | ((with_reducible refine gate_callee (f := 46) rfl ?_); refine goesL_ (some 5) rfl rfl Tryd.func46 (by kernel_rfl) rfl #[.slice A0_0 l0_0.length c0_0] rfl (by (try simp only [List.map_toArray, List.map_cons, List.map_nil]); first | done | rfl | (simp only [List.length_drop, List.length_take]; rfl)) ?_; (with_reducible refine (tree_OpsMay.calls k _ _ l0_0 true _ ?side1 ?side2 A2.out).mono ?_); (case side1 => repeat (first | exact (Kd.C_below HR0_0.out HB.out) | (with_reducible refine Kd.C_alloc ?_ _) | (with_reducible refine Kd.C_drewN ?_ _) | (with_reducible refine Kd.C_drew ?_))); (case side2 => exact HC0_0.out); rintro e w7 ⟨rfl, hb⟩; refine ⟨_, rfl, ?_⟩; have n0_ := Aside0.mk (blk_below (g := gb287) (o := .cells #[.slice A0_0 l0_0.length c0_0, .slice A0_1 l0_1.length c0_1] 25 (0, 0)) (by (with_reducible repeat (first | refine blk_drewN ?_ _ | refine blk_drew ?_ | refine blk_alloc ?_ _)); exact BK287.out) hb); have n1_ := Aside0.mk (below_step (by repeat (first | (with_reducible first | exact HB.out | apply below_alloc | apply pw_below_drewN | apply below_drew1 | refine below_set ?_ GE287.out) | exact HB.out)) hb); clear BK287; clear HB; have BK287 := n0_; have HB := n1_; clear n0_ n1_; (try clear hb); (try clear hb2); (try clear hk); (try clear hi); have hcz8_0 : w7.cell? ⟨gb287, 0, none⟩ = some (.slice A0_0 l0_0.length c0_0) := (blk_cell BK287.out 0).trans rfl; have hcz8_1 : w7.cell? ⟨gb287, 1, none⟩ = some (.slice A0_1 l0_1.length c0_1) := (blk_cell BK287.out 1).trans rfl; have hfz8_0 := blk_frozen BK287.out 0; have hfz8_1 := blk_frozen BK287.out 1) | (go_at_call 47; (with_reducible refine (tree_Shaped.calls k _ _ l0_1 true t289 _ ?side1 ?side2 A4.out).mono ?_); (case side1 => repeat (first | exact (Kd.C_below HR0_1.out HB.out) | (with_reducible refine Kd.C_alloc ?_ _) | (with_reducible refine Kd.C_drewN ?_ _) | (with_reducible refine Kd.C_drew ?_))); (case side2 => exact HC0_1.out); rintro e w9 ⟨rfl, hb⟩; have n0_ := Aside0.mk (blk_below (g := gb287) (o := .cells #[.slice A0_0 l0_0.length c0_0, .slice A0_1 l0_1.length c0_1] 25 (0, 0)) (by (with_reducible repeat (first | refine blk_drewN ?_ _ | refine blk_drew ?_ | refine blk_alloc ?_ _)); exact BK287.out) hb); have n1_ := Aside0.mk (below_step (by repeat (first | (with_reducible first | exact HB.out | apply below_alloc | apply pw_below_drewN | apply below_drew1 | refine below_set ?_ GE287.out) | exact HB.out)) hb); clear BK287; clear HB; have BK287 := n0_; have HB := n1_; clear n0_ n1_; (try clear hb); (try clear hb2); (try clear hk); (try clear hi)))
    go_ret
    exact ⟨by first | rfl | (simp [errW_none, errW_some] <;> rfl) | (simp [*, errW_none, errW_some] <;> rfl), by repeat (first | (with_reducible first | exact HB.out | apply below_alloc | apply pw_below_drewN | apply below_drew1 | refine below_set ?_ GE287.out) | exact HB.out)⟩
  · replace c3 := Bool.eq_false_iff.mpr c3
    subst c3
    have H1 : (some false) = some r := by rw [if_neg (show ¬ (false = true) by decide)] at H; exact H
    clear H
    have H := H1
    clear H1
    obtain rfl := Option.some.inj H
    go_enter Tryd.func20, Tryd.ntmps20
    go_wp2_with (first | ((with_reducible refine gate_dst (N := 1) rfl ?_); refine box_event ?hg (N := 1) ?hd (cs := #[.slice A0_0 l0_0.length c0_0, .slice A0_1 l0_1.length c0_1]) (t := 25) ?hr ?_; (case hd => rfl); (case hg => rfl); (case hr => first | (go_simp; done) | (go_simp; rfl)); intro gb287 hg w10 hbox hb; have n0_ := Aside0.mk (below_step (by repeat (first | (with_reducible first | exact HB.out | apply below_alloc | apply pw_below_drewN | apply below_drew1) | exact HB.out)) hb); have n1_ := Aside0.mk (hbox); have n2_ := Aside0.mk ((by rw [hg]; exact (below_size (by repeat (first | (with_reducible first | exact HB.out | apply below_alloc | apply pw_below_drewN | apply below_drew1) | exact HB.out))) : w.heap.size ≤ gb287)); have n3_ := Aside0.mk ((by rw [hg]; exact (below_size (by repeat (first | (with_reducible first | exact HB.out | apply below_alloc | apply pw_below_drewN | apply below_drew1) | exact HB.out))) : w.heap.size ≤ gb287)); clear HB; have HB := n0_; have BK287 := n1_; have GW287 := n2_; have GE287 := n3_; clear n0_ n1_ n2_ n3_; clear hb hbox hg; have hcz11_0 : w10.cell? ⟨gb287, 0, none⟩ = some (.slice A0_0 l0_0.length c0_0) := (blk_cell BK287.out 0).trans rfl; have hcz11_1 : w10.cell? ⟨gb287, 1, none⟩ = some (.slice A0_1 l0_1.length c0_1) := (blk_cell BK287.out 1).trans rfl; have hfz11_0 := blk_frozen BK287.out 0; have hfz11_1 := blk_frozen BK287.out 1) | ((with_reducible refine gate_callee (f := 46) rfl ?_); refine goesL_ (some 5) rfl rfl Tryd.func46 (by kernel_rfl) rfl #[.slice A0_0 l0_0.length c0_0] rfl (by (try simp only [List.map_toArray, List.map_cons, List.map_nil]); first | done | rfl | (simp only [List.length_drop, List.length_take]; rfl)) ?_; (with_reducible refine (tree_OpsMay.calls k _ _ l0_0 false _ ?side1 ?side2 A2.out).mono ?_); (case side1 => repeat (first | exact (Kd.C_below HR0_0.out HB.out) | (with_reducible refine Kd.C_alloc ?_ _) | (with_reducible refine Kd.C_drewN ?_ _) | (with_reducible refine Kd.C_drew ?_))); (case side2 => exact HC0_0.out); rintro e w12 ⟨rfl, hb⟩; refine ⟨_, rfl, ?_⟩; have n0_ := Aside0.mk (blk_below (g := gb287) (o := .cells #[.slice A0_0 l0_0.length c0_0, .slice A0_1 l0_1.length c0_1] 25 (0, 0)) (by (with_reducible repeat (first | refine blk_drewN ?_ _ | refine blk_drew ?_ | refine blk_alloc ?_ _)); exact BK287.out) hb); have n1_ := Aside0.mk (below_step (by repeat (first | (with_reducible first | exact HB.out | apply below_alloc | apply pw_below_drewN | apply below_drew1 | refine below_set ?_ GE287.out) | exact HB.out)) hb); clear BK287; clear HB; have BK287 := n0_; have HB := n1_; clear n0_ n1_; (try clear hb); (try clear hb2); (try clear hk); (try clear hi)))
    go_ret
    exact ⟨by first | rfl | (simp [errW_none, errW_some] <;> rfl) | (simp [*, errW_none, errW_some] <;> rfl), by repeat (first | (with_reducible first | exact HB.out | apply below_alloc | apply pw_below_drewN | apply below_drew1 | refine below_set ?_ GE287.out) | exact HB.out)⟩
end Go.Proofs.YtnogfhhfklkbiaaDoor.H

namespace Go.Proofs.YtnogfhhfklkbiaaDoor.H
open Go.RowKit Go.Proofs.YtnogfhhfklkbiaaDoorW.PrintWords Go.Proofs.YtnogfhhfklkbiaaDoorW.PrintLast Go.Proofs.YtnogfhhfklkbiaaDoorW.PrintMore
attribute [local go_sem] max2_int min2_int max_two min_two max_three min_three max_four min_four
set_option linter.unusedVariables false
set_option linter.unusedSimpArgs false
def goD (g : Int → Option Int) : List Int → Int → Option Int
  | [], d => some d
  | c :: cs, d => (g c).bind fun r => goD g cs (mx d r)
def tree_depth.f : Nat → List S45 → Int → Option Int
  | 0, _, _ => none
  | k + 1, l, a => if 0 ≤ a then (if a < (l.length : Int) then (goD (tree_depth.f k l) (kidsOf (rd_T45 l a)) 0).bind fun d => some (wrap64 (d + 1)) else none) else none
theorem goD_mono {g g' : Int → Option Int} (h : ∀ x, LeO (g x) (g' x)) : ∀ cs a, LeO (goD g cs a) (goD g' cs a)
  | [], a => LeO.refl _
  | c :: cs, a => by
    unfold goD
    exact LeO.bind (h _) fun r => goD_mono h cs _
theorem tree_depth.mono : ∀ a0 a1 k, LeO (tree_depth.f k a0 a1) (tree_depth.f (k + 1) a0 a1) := by
  intro l a k
  induction k generalizing a with
  | zero => exact fun r h => by simp [tree_depth.f] at h
  | succ k ih =>
    rw [tree_depth.f, tree_depth.f]
    exact LeO.ite (LeO.ite (LeO.bind (goD_mono (fun x => ih x) _ _) fun _ => LeO.refl _) (LeO.none _)) (LeO.none _)
set_option maxRecDepth 100000 in
set_option maxHeartbeats 8000000 in
theorem tree_depth.calls (k : Nat) : ∀ (A0 : Option Addr) (c0 : Nat) (l0 : List (S45)) (a1 : Int) (r : Int) (w : World) (hr0 : Kd.C k45 w A0 l0.length l0) (hc0 : l0.length ≤ c0) (h : tree_depth.f k l0 a1 = some r),
    Calls Tryd.prog 39 #[.slice A0 l0.length c0, .int .i64 a1] w fun e w' => e = .returned (.int .i64 r) ∧ Below w.heap.size w w' := by
  induction k with
  | zero => intro A0 c0 l0 a1 r w hr0 hc0 h; exact absurd h (by simp [tree_depth.f])
  | succ k ih =>
    intro A0 c0 l0 a1 r w hr0 hc0 h
    rw [tree_depth.f] at h
    by_cases h0 : 0 ≤ a1
    · rw [if_pos h0] at h
      by_cases h1 : a1 < (l0.length : Int)
      · rw [if_pos h1] at h
        replace h := Option.bind_eq_some_iff.mp h
        obtain ⟨d0, h, hd⟩ := h
        obtain rfl := Option.some.inj hd
        clear hd
        obtain ⟨ad, e157, hx0, hx1, hx2, hx3, hx4, hx5, hx6, hx7, hx8, hx9⟩ := at_T45 hr0 a1 h0 h1
        cases e157
        have H := Aside0.mk h
        have HC := Aside0.mk hr0
        have HL := Aside0.mk hc0
        clear h hr0 hc0
        generalize hX : rd_T45 l0 a1 = x at *
        have HX := Aside0.mk hX
        clear hX
        go_enter Tryd.func39, Tryd.ntmps39
        go_wp2_with fail
        refine (kids_calls w.heap.size 0 x.f0 _ (by simp)).mono ?_
        rintro e w1 ⟨rfl, hb1, hp1⟩
        have hz : (w.alloc (.cells #[.int .i64 x.f0, .int .i64 x.f1, .int .i64 x.f2, .int .i64 x.f3, .int .i64 x.f4, .string x.f5, .string x.f6, .string x.f7, .string x.f8, .int .i64 x.f9] 45)).heap.size = w.heap.size + 1 := by simp
        have hB1 : Below w.heap.size w w1 := (((Below.refl _ _).alloc (Nat.le_refl _) _)).trans (hb1.mono (by omega))
        have hnode : w1.heap[w.heap.size]? = some (.cells #[.int .i64 x.f0, .int .i64 x.f1, .int .i64 x.f2, .int .i64 x.f3, .int .i64 x.f4, .string x.f5, .string x.f6, .string x.f7, .string x.f8, .int .i64 x.f9] 45 (0, 0)) :=
          (hb1.block w.heap.size (by omega)).trans (heap_alloc_new w _)
        rw [hz] at hp1 ⊢
        have hs1 : w.heap.size + 1 ≤ w1.heap.size := by have := hb1.size; omega
        clear hb1 hz
        generalize hn : kidsN x.f0 = n at *
        have hl := fieldPtrs_len w.heap.size (0 + 1) n
        have HN := Aside0.mk hn
        have HB1 := Aside0.mk hB1
        have HNODE := Aside0.mk hnode
        have HP1 := Aside0.mk hp1
        have HL1 := Aside0.mk hl
        have hn3 : n ≤ 3 := by rw [← hn]; exact kidsN_le _
        clear hn hB1 hnode hp1 hl
        go_wp2_with fail
        go_loopw [6, 15] (fun v6 v15 wr => ∃ (i : Nat) (d : Int), v6 = .int .i64 d ∧ v15 = .int .i64 i ∧ i ≤ n ∧ Aside0 (goD (tree_depth.f k l0) ((kidsOf x).drop i) d = some d0) ∧ Below w1.heap.size w1 wr) (fun _ v15 _ => n - (intOf v15).toNat)
        case atStart => exact ⟨0, 0, rfl, rfl, Nat.zero_le _, H, Below.refl _ _⟩
        case round =>
          obtain ⟨i, d, rfl, rfl, hi, HG, hbr⟩ := hrel
          have HBR := Aside0.mk hbr
          clear hbr H
          by_cases hlt : i < n
          · have hpA : ptrOf (w.heap.size + 1) n = some ⟨w.heap.size + 1, 0, none⟩ := ptrOf_some (by omega)
            rw [hpA]
            have hlen : (kidsOf x).length = n := (kidsOf_len x).trans HN.out
            have hget : ∃ c, (kidsOf x)[i]? = some c := ⟨_, List.getElem?_eq_getElem (by omega)⟩
            obtain ⟨c, hc⟩ := hget
            have hdrop : (kidsOf x).drop i = c :: (kidsOf x).drop (i + 1) := (hr_drop hc).symm
            have c1 : wr.cell? ⟨w.heap.size, 1 + i, none⟩ = some (.int .i64 c) := (HBR.out.cell (p := ⟨w.heap.size, 1 + i, none⟩) (by show w.heap.size < _; omega)).trans (node_cells x HNODE.out i c hc)
            have c2 : wr.cell? ⟨w.heap.size + 1, i, none⟩ = some (.pointer (some ⟨w.heap.size, 1 + i, none⟩)) := by
              have hh := blk_lt (HP1.out (by omega))
              rw [HBR.out.cell (p := ⟨w.heap.size + 1, i, none⟩) (by show w.heap.size + 1 < _; omega), blk_cell (HP1.out (by omega)) i]
              rw [List.getElem?_toArray]
              exact fieldPtrs_get _ _ _ _ hlt
            have HG' := HG.out
            rw [hdrop, goD] at HG'
            clear hdrop hlen HG hc
            have hcr : Aside0 (Kd.C k45 wr (some ad) l0.length l0) := ⟨Kd.C_below HC.out (HB1.out.trans (HBR.out.mono (by omega)))⟩
            replace HG' := Option.bind_eq_some_iff.mp HG'
            obtain ⟨r1, hr1, HG'⟩ := HG'
            have HR1 := Aside0.mk hr1
            have HG2 := Aside0.mk HG'
            clear hr1 HG'
            go_wp2_with (go_at_call 39; (with_reducible refine (ih (some ad) c0 l0 c r1 _ hcr.out HL.out HR1.out).mono ?_); rintro e w3 ⟨rfl, hb3⟩; have HB3 := Aside0.mk hb3; clear hb3)
            go_roundw
            case rel => exact ⟨i + 1, mx d r1, by first | rfl | (simp [mx]; done), by go_num, by omega, HG2, HBR.out.trans (HB3.out.mono (HBR.out.size))⟩
            case measure => simp [intOf]; omega
          · have hin : i = n := by omega
            have HG' := HG.out
            rw [List.drop_eq_nil_of_le (by rw [kidsOf_len, HN.out]; omega), goD] at HG'
            obtain rfl := Option.some.inj HG'
            clear HG' HG hin
            go_wp2
            go_ret
            exact ⟨rfl, HB1.out.trans (HBR.out.mono (by omega))⟩
      · rw [if_neg h1] at h; cases h
    · rw [if_neg h0] at h; cases h
end Go.Proofs.YtnogfhhfklkbiaaDoor.H

namespace Go.Proofs.YtnogfhhfklkbiaaDoor.H
open Go.RowKit Go.Proofs.YtnogfhhfklkbiaaDoorW.PrintWords Go.Proofs.YtnogfhhfklkbiaaDoorW.PrintLast Go.Proofs.YtnogfhhfklkbiaaDoorW.PrintMore
attribute [local go_sem] max2_int min2_int max_two min_two max_three min_three max_four min_four
set_option linter.unusedVariables false
set_option linter.unusedSimpArgs false
def tree_Depth.f (k : Nat) (l0 : List (S45)) (a1 : Int) : Option (Int × Int) := (tree_there.f k l0 a1).bind fun t290 => (if t290 = true then ((tree_depth.f k l0 a1).bind fun t291 => (some (t291, 0))) else (some (0, 300)))
theorem tree_Depth.mono : ∀ a0 a1 k, LeO (tree_Depth.f k a0 a1) (tree_Depth.f (k + 1) a0 a1) := by
  intro a0 a1 k
  unfold tree_Depth.f
  repeat' first
      | (with_reducible exact tree_depth.mono _ _ _)
      | (with_reducible exact tree_there.mono _ _ _)
      | (with_reducible exact LeO.refl _)
      | (with_reducible exact LeO.none _)
      | (with_reducible refine LeO.ite ?_ ?_)
      | (with_reducible refine LeO.bind ?_ (fun _ => ?_))
      | exact tree_depth.mono _ _ _
      | exact tree_there.mono _ _ _
      | exact LeO.none _
      | refine LeO.ite ?_ ?_
      | refine LeO.bind ?_ (fun _ => ?_)
set_option maxHeartbeats 8000000 in
set_option maxRecDepth 100000 in
theorem tree_Depth.calls (k : Nat) (A0 : Option Addr) (c0 : Nat) (l0 : List (S45)) (a1 : Int) (r1 : Int) (r2 : Int) (w : World) (hr0 : Kd.C k45 w A0 l0.length l0) (hc0 : l0.length ≤ c0) (h : tree_Depth.f k l0 a1 = some (r1, r2)) :
    Calls Tryd.prog 14 #[.slice A0 l0.length c0, .int .i64 a1] w fun e w' => e = .returned (.tuple #[.int .i64 r1, .int .i64 r2]) ∧ Below w.heap.size w w' := by
  have HR0 := Aside0.mk hr0
  have HC0 := Aside0.mk hc0
  clear hr0 hc0
  have HB := Aside0.mk (Below.refl w.heap.size w)
  have H : ((tree_there.f k l0 a1).bind fun t290 => (if t290 = true then ((tree_depth.f k l0 a1).bind fun t291 => (some (t291, 0))) else (some (0, 300)))) = some (r1, r2) := h
  clear h
  replace H := Option.bind_eq_some_iff.mp H
  obtain ⟨t290, A30, H⟩ := H
  replace H : (if t290 = true then ((tree_depth.f k l0 a1).bind fun t291 => (some (t291, 0))) else (some (0, 300))) = some (r1, r2) := H
  have A3 := Aside0.mk A30
  clear A30
  by_cases c4 : t290 = true
  · subst c4
    have H1 : ((tree_depth.f k l0 a1).bind fun t291 => (some (t291, 0))) = some (r1, r2) := by rw [if_pos rfl] at H; exact H
    clear H
    have H := H1
    clear H1
    replace H := Option.bind_eq_some_iff.mp H
    obtain ⟨t291, A50, H⟩ := H
    replace H : (some (t291, 0)) = some (r1, r2) := H
    have A5 := Aside0.mk A50
    clear A50
    simp only [Option.some.injEq, Prod.mk.injEq] at H
    obtain ⟨rfl, rfl⟩ := H
    go_enter Tryd.func14, Tryd.ntmps14
    go_wp2_with (first | ((with_reducible refine gate_callee (f := 38) rfl ?_); refine goesL_ (some 8) rfl rfl Tryd.func38 (by kernel_rfl) rfl #[.slice A0 l0.length c0, .int .i64 a1] rfl (by (try simp only [List.map_toArray, List.map_cons, List.map_nil]); first | done | rfl | (simp only [List.length_drop, List.length_take]; rfl)) ?_; (with_reducible refine (tree_there.calls k _ _ l0 a1 true _ ?side1 ?side2 A3.out).mono ?_); (case side1 => repeat (first | exact HR0.out | (with_reducible refine Kd.C_alloc ?_ _) | (with_reducible refine Kd.C_drewN ?_ _) | (with_reducible refine Kd.C_drew ?_))); (case side2 => exact HC0.out); rintro e w6 ⟨rfl, hb⟩; refine ⟨_, rfl, ?_⟩; have n0_ := Aside0.mk (below_step (by repeat (first | (with_reducible first | exact HB.out | apply below_alloc | apply pw_below_drewN | apply below_drew1) | exact HB.out)) hb); clear HB; have HB := n0_; clear n0_; (try clear hb); (try clear hb2); (try clear hk); (try clear hi)) | ((with_reducible refine gate_callee (f := 39) rfl ?_); refine goesL_ (some 12) rfl rfl Tryd.func39 (by kernel_rfl) rfl #[.slice A0 l0.length c0, .int .i64 a1] rfl (by (try simp only [List.map_toArray, List.map_cons, List.map_nil]); first | done | rfl | (simp only [List.length_drop, List.length_take]; rfl)) ?_; (with_reducible refine (tree_depth.calls k _ _ l0 a1 t291 _ ?side1 ?side2 A5.out).mono ?_); (case side1 => repeat (first | exact (Kd.C_below HR0.out HB.out) | (with_reducible refine Kd.C_alloc ?_ _) | (with_reducible refine Kd.C_drewN ?_ _) | (with_reducible refine Kd.C_drew ?_))); (case side2 => exact HC0.out); rintro e w7 ⟨rfl, hb⟩; refine ⟨_, rfl, ?_⟩; have n0_ := Aside0.mk (below_step (by repeat (first | (with_reducible first | exact HB.out | apply below_alloc | apply pw_below_drewN | apply below_drew1) | exact HB.out)) hb); clear HB; have HB := n0_; clear n0_; (try clear hb); (try clear hb2); (try clear hk); (try clear hi)))
    go_ret2
    exact ⟨by first | rfl | (simp [errW_none, errW_some] <;> rfl) | (simp [*, errW_none, errW_some] <;> rfl), by repeat (first | (with_reducible first | exact HB.out | apply below_alloc | apply pw_below_drewN | apply below_drew1) | exact HB.out)⟩
  · replace c4 := Bool.eq_false_iff.mpr c4
    subst c4
    have H1 : (some (0, 300)) = some (r1, r2) := by rw [if_neg (show ¬ (false = true) by decide)] at H; exact H
    clear H
    have H := H1
    clear H1
    simp only [Option.some.injEq, Prod.mk.injEq] at H
    obtain ⟨rfl, rfl⟩ := H
    go_enter Tryd.func14, Tryd.ntmps14
    go_wp2_with (first | ((with_reducible refine gate_callee (f := 38) rfl ?_); refine goesL_ (some 8) rfl rfl Tryd.func38 (by kernel_rfl) rfl #[.slice A0 l0.length c0, .int .i64 a1] rfl (by (try simp only [List.map_toArray, List.map_cons, List.map_nil]); first | done | rfl | (simp only [List.length_drop, List.length_take]; rfl)) ?_; (with_reducible refine (tree_there.calls k _ _ l0 a1 false _ ?side1 ?side2 A3.out).mono ?_); (case side1 => repeat (first | exact HR0.out | (with_reducible refine Kd.C_alloc ?_ _) | (with_reducible refine Kd.C_drewN ?_ _) | (with_reducible refine Kd.C_drew ?_))); (case side2 => exact HC0.out); rintro e w8 ⟨rfl, hb⟩; refine ⟨_, rfl, ?_⟩; have n0_ := Aside0.mk (below_step (by repeat (first | (with_reducible first | exact HB.out | apply below_alloc | apply pw_below_drewN | apply below_drew1) | exact HB.out)) hb); clear HB; have HB := n0_; clear n0_; (try clear hb); (try clear hb2); (try clear hk); (try clear hi)))
    go_ret2
    exact ⟨by first | rfl | (simp [errW_none, errW_some] <;> rfl) | (simp [*, errW_none, errW_some] <;> rfl), by repeat (first | (with_reducible first | exact HB.out | apply below_alloc | apply pw_below_drewN | apply below_drew1) | exact HB.out)⟩
end Go.Proofs.YtnogfhhfklkbiaaDoor.H

namespace Go.Proofs.YtnogfhhfklkbiaaDoor.H
open Go.RowKit Go.Proofs.YtnogfhhfklkbiaaDoorW.PrintWords Go.Proofs.YtnogfhhfklkbiaaDoorW.PrintLast Go.Proofs.YtnogfhhfklkbiaaDoorW.PrintMore
attribute [local go_sem] max2_int min2_int max_two min_two max_three min_three max_four min_four
set_option linter.unusedVariables false
set_option linter.unusedSimpArgs false
def tree_Same.f (l0 l1 : List S45) : Option Bool := if l0.length ≤ 9223372036854775807 then some (sameNodes l0 l1) else none
set_option maxRecDepth 100000 in
set_option maxHeartbeats 8000000 in
theorem tree_Same.calls (A0 : Option Addr) (c0 : Nat) (l0 : List (S45)) (A1 : Option Addr) (c1 : Nat) (l1 : List (S45)) (r : Bool) (w : World) (hr0 : Kd.C k45 w A0 l0.length l0) (hc0 : l0.length ≤ c0) (hr1 : Kd.C k45 w A1 l1.length l1) (hc1 : l1.length ≤ c1) (h : tree_Same.f l0 l1 = some r) :
    Calls Tryd.prog 22 #[.slice A0 l0.length c0, .slice A1 l1.length c1] w fun e w' => e = .returned (.bool r) ∧ Below w.heap.size w w' := by
  unfold tree_Same.f at h
  split at h
  · rename_i hl
    obtain rfl := Option.some.inj h
    have C := Aside0.mk (equalFunc_calls A0 c0 l0 A1 c1 l1 w hr0 hr1 hl)
    clear hr0 hr1 hc0 hc1 h
    go_enter Tryd.func22, Tryd.ntmps22
    go_wp2_with (go_at_call 50; refine C.out.mono ?_; rintro e w3 ⟨rfl, hb3⟩; have HB3 := Aside0.mk hb3; clear hb3)
    go_ret
    exact ⟨rfl, HB3.out⟩
  · cases h
end Go.Proofs.YtnogfhhfklkbiaaDoor.H

set_option linter.unusedVariables false
set_option linter.unusedSimpArgs false
namespace Go.Proofs.YtnogfhhfklkbiaaDoor.H
open Go.RowKit Go.Proofs.YtnogfhhfklkbiaaDoorW.PrintWords Go.Proofs.YtnogfhhfklkbiaaDoorW.PrintLast Go.Proofs.YtnogfhhfklkbiaaDoorW.PrintMore
def isLet (b : UInt8) : Bool := decide (97 ≤ b.toNat) && decide (b.toNat ≤ 122)
def isDig (b : UInt8) : Bool := decide (48 ≤ b.toNat) && decide (b.toNat ≤ 57)
def isMore (b : UInt8) : Bool := isLet b || (isDig b || b == 95)
def lettersB : ByteArray := ⟨#[97, 98, 99, 100, 101, 102, 103, 104, 105, 106, 107, 108, 109, 110, 111, 112, 113, 114, 115, 116, 117, 118, 119, 120, 121, 122]⟩
def moreB : ByteArray := ⟨#[97, 98, 99, 100, 101, 102, 103, 104, 105, 106, 107, 108, 109, 110, 111, 112, 113, 114, 115, 116, 117, 118, 119, 120, 121, 122, 48, 49, 50, 51, 52, 53, 54, 55, 56, 57, 95]⟩
def kwL : List (List UInt8) := [[102, 117, 110], [108, 101, 116], [114, 101, 99], [105, 110], [105, 102], [116, 104, 101, 110], [101, 108, 115, 101], [104, 97, 110, 100, 108, 101], [119, 105, 116, 104], [114, 101, 116, 117, 114, 110], [101, 110, 100], [100, 111], [111, 112], [116, 114, 117, 101], [102, 97, 108, 115, 101], [105, 110, 116], [98, 111, 111, 108]]
def kw (l : List UInt8) : Bool := kwL.contains l
def nm (l : List UInt8) : Bool := match l with
  | [] => false
  | c :: r => decide (r.length < 16) && (isLet c && (r.all isMore && !kw (c :: r)))
theorem byte_all {P : UInt8 → Prop} (h : ∀ n : Fin 256, P (UInt8.ofNat n)) (c : UInt8) : P c := by
  have := h ⟨c.toNat, c.toNat_lt⟩
  simpa using this
theorem mem_letters (c : UInt8) : decide (c ∈ lettersB.data.toList) = isLet c := byte_all (P := fun c => decide (c ∈ lettersB.data.toList) = isLet c) (by decide +kernel) c
theorem mem_more (c : UInt8) : decide (c ∈ moreB.data.toList) = isMore c := byte_all (P := fun c => decide (c ∈ moreB.data.toList) = isMore c) (by decide +kernel) c
theorem indexByte_mem (l : List UInt8) (c : UInt8) : 0 ≤ Lib.indexByte l c ↔ c ∈ l := by
  induction l with
  | nil => simp [Lib.indexByte]
  | cons b l ih =>
    have hge := Lib.indexByte_ge l c
    unfold Lib.indexByte
    by_cases h : b = c
    · subst h
      simp
    · have hb : (b == c) = false := by simpa using h
      simp only [hb, Bool.false_eq_true, if_false, List.mem_cons]
      by_cases h1 : Lib.indexByte l c = -1
      · have hn : c ∉ l := fun hm => by have := ih.2 hm; omega
        simp [h1, hn, Ne.symm h]
      · have hm : c ∈ l := ih.1 (by omega)
        have h2 : (Lib.indexByte l c == -1) = false := by simpa using h1
        simp only [h2, Bool.false_eq_true, if_false, hm, or_true, iff_true]
        omega
theorem of_is (c : UInt8) (some_ : ByteArray) : lex_of.f (c.toNat : Int) some_ = some (decide (c ∈ some_.data.toList)) := by
  unfold lex_of.f strings_IndexByte.f
  have hc : ((c.toNat : Int)).toNat.toUInt8 = c := by simp
  rw [hc]
  simp only [Option.bind_some, Option.some.injEq]
  by_cases h : c ∈ some_.data.toList
  · have := (indexByte_mem some_.data.toList c).2 h
    simp [h]
    omega
  · have : ¬ 0 ≤ Lib.indexByte some_.data.toList c := fun hh => h ((indexByte_mem _ _).1 hh)
    simp [h]
    omega
theorem wrapS {x : Int} (h0 : 0 ≤ x) (h1 : x ≤ 1152921504606846976) : wrap64 x = x := by
  unfold wrap64
  omega
theorem list_size (s : ByteArray) : s.data.toList.length = s.size := by rw [Array.length_toList]; rfl
theorem bt_list (s : ByteArray) (i : Nat) (c : UInt8) (h : s.data.toList[i]? = some c) : bt s (i : Int) = (c.toNat : Int) := by
  obtain ⟨hi, rfl⟩ := List.getElem?_eq_some_iff.1 h
  have hs : i < s.size := by rw [← list_size]; exact hi
  unfold bt
  rw [dif_pos (by omega)]
  simp
  rfl
def runN (p : UInt8 → Bool) (l : List UInt8) : Nat := (l.takeWhile p).length
theorem run_loop (s x : ByteArray) (p : UInt8 → Bool) (hp : ∀ c, decide (c ∈ x.data.toList) = p c) (hs : s.size ≤ 1152921504606846976) : ∀ (d i k : Nat), s.size - i = d → i ≤ s.size → d < k →
    lex_run.l0 k s x (i : Int) = some (s.extract 0 (i + runN p (s.data.toList.drop i))) := by
  intro d
  induction d with
  | zero =>
    intro i k hd hi hk
    obtain ⟨k, rfl⟩ : ∃ m, k = m + 1 := ⟨k - 1, by omega⟩
    have : i = s.size := by omega
    subst this
    simp only [lex_run.l0]
    rw [if_neg (by omega), if_pos (by omega), if_pos (by omega), List.drop_eq_nil_of_le (by rw [list_size]; exact Nat.le_refl _)]
    simp [runN]
  | succ d ih =>
    intro i k hd hi hk
    obtain ⟨k, rfl⟩ : ∃ m, k = m + 1 := ⟨k - 1, by omega⟩
    have hlt : i < s.data.toList.length := by rw [list_size]; omega
    have hg : s.data.toList[i]? = some s.data.toList[i] := List.getElem?_eq_getElem hlt
    simp only [lex_run.l0]
    rw [if_pos (by omega), if_pos (by omega), bt_list s i _ hg, of_is, hp]
    rw [List.drop_eq_getElem_cons hlt]
    simp only [Option.bind_some]
    by_cases hc : p s.data.toList[i] = true
    · rw [if_pos hc, wrapS (by omega) (by omega), show ((i : Int) + 1) = ((i + 1 : Nat) : Int) from by omega, ih (i + 1) k (by omega) (by omega) (by omega)]
      simp only [runN, List.takeWhile_cons, hc, if_true, List.length_cons]
      congr 2
      omega
    · rw [if_neg hc, if_pos (by omega), Int.toNat_natCast]
      have h0 : runN p (s.data.toList[i] :: s.data.toList.drop (i + 1)) = 0 := by
        unfold runN
        rw [List.takeWhile_cons_of_neg hc]
        rfl
      rw [h0, Nat.add_zero]
theorem run_is (s x : ByteArray) (p : UInt8 → Bool) (hp : ∀ c, decide (c ∈ x.data.toList) = p c) (hs : s.size ≤ 1152921504606846976) (k : Nat) (hk : s.size < k) : lex_run.f k s x = some (s.extract 0 (runN p s.data.toList)) := by
  unfold lex_run.f
  have := run_loop s x p hp hs s.size 0 k rfl (Nat.zero_le _) hk
  simpa using this
theorem tw_all (p : UInt8 → Bool) : ∀ l : List UInt8, l.all p = true ↔ l.takeWhile p = l
  | [] => by simp
  | c :: l => by
    have ih := tw_all p l
    by_cases h : p c = true
    · rw [List.takeWhile_cons_of_pos h, List.all_cons, h, Bool.true_and, ih]
      simp
    · rw [List.takeWhile_cons_of_neg h, List.all_cons]
      simp [h]
theorem bytes_ext {a b : ByteArray} (h : a.data.toList = b.data.toList) : a = b := by
  cases a; cases b
  simp only at h
  rw [Array.toList_inj] at h
  rw [h]
theorem toList_data (s : ByteArray) : s.toList = s.data.toList := ByteArray.toList_eq s
theorem extract_list (s : ByteArray) (n : Nat) : (s.extract 0 n).data.toList = s.data.toList.take n := by
  simp
theorem index_loop (ps : List ByteArray) (x : ByteArray) (hl : ps.length ≤ 1000000) : ∀ (d i k : Nat), ps.length - i = d → i ≤ ps.length → d < k →
    ∃ r, slices_Index_string_string.l0 k ps x (ps.length : Int) (i : Int) = some r ∧ (0 ≤ r ↔ x.data.toList ∈ (ps.drop i).map (·.data.toList)) := by
  intro d
  induction d with
  | zero =>
    intro i k hd hi hk
    obtain ⟨k, rfl⟩ : ∃ m, k = m + 1 := ⟨k - 1, by omega⟩
    refine ⟨-1, ?_, ?_⟩
    · simp only [slices_Index_string_string.l0]
      rw [if_neg (by omega)]
    · rw [List.drop_eq_nil_of_le (by omega)]
      simp
  | succ d ih =>
    intro i k hd hi hk
    obtain ⟨k, rfl⟩ : ∃ m, k = m + 1 := ⟨k - 1, by omega⟩
    have hlt : i < ps.length := by omega
    have hrd : rdOf ByteArray.empty ps (i : Int) = ps[i] := by
      unfold rdOf
      rw [Int.toNat_natCast, List.getD_eq_getElem?_getD, List.getElem?_eq_getElem hlt]
      rfl
    simp only [slices_Index_string_string.l0]
    rw [if_pos (by omega), if_pos (by omega), if_pos (by omega), hrd, toList_data, toList_data, List.drop_eq_getElem_cons hlt]
    by_cases h : x.data.toList = ps[i].data.toList
    · refine ⟨i, by rw [if_pos h], ?_⟩
      rw [List.map_cons, List.mem_cons]
      exact ⟨fun _ => .inl h, fun _ => by omega⟩
    · rw [if_neg h, wrapS (by omega) (by omega), show ((i : Int) + 1) = ((i + 1 : Nat) : Int) from by omega]
      obtain ⟨r, hr, hiff⟩ := ih (i + 1) k (by omega) (by omega) (by omega)
      refine ⟨r, hr, ?_⟩
      rw [hiff, List.map_cons, List.mem_cons]
      simp [h]
theorem contains_is (ps : List ByteArray) (x : ByteArray) (hl : ps.length ≤ 1000000) (k : Nat) (hk : ps.length < k) : slices_Contains_string_string.f k ps x = some (decide (x.data.toList ∈ ps.map (·.data.toList))) := by
  unfold slices_Contains_string_string.f slices_Index_string_string.f
  obtain ⟨r, hr, hiff⟩ := index_loop ps x hl ps.length 0 k rfl (Nat.zero_le _) hk
  rw [show ((0 : Nat) : Int) = 0 from rfl] at hr
  rw [hr]
  simp only [Option.bind_some, Option.some.injEq]
  rw [List.drop_zero] at hiff
  by_cases h : x.data.toList ∈ ps.map (·.data.toList)
  · have := hiff.2 h
    rw [decide_eq_true h]
    simp
    omega
  · have : ¬ 0 ≤ r := fun hh => h (hiff.1 hh)
    rw [decide_eq_false h]
    simp
    omega
def keywordsB : ByteArray := ⟨#[102, 117, 110, 32, 108, 101, 116, 32, 114, 101, 99, 32, 105, 110, 32, 105, 102, 32, 116, 104, 101, 110, 32, 101, 108, 115, 101, 32, 104, 97, 110, 100, 108, 101, 32, 119, 105, 116, 104, 32, 114, 101, 116, 117, 114, 110, 32, 101, 110, 100, 32, 100, 111, 32, 111, 112, 32, 116, 114, 117, 101, 32, 102, 97, 108, 115, 101, 32, 105, 110, 116, 32, 98, 111, 111, 108]⟩
theorem split_keywords : (strings_Split.f keywordsB ⟨#[32]⟩).map (fun ps => ps.map (·.data.toList)) = some kwL := by decide +kernel
theorem keyword_is (s : ByteArray) (k : Nat) (hk : 20 ≤ k) : lex_Keyword.f k s = some (kw s.data.toList) := by
  have h := split_keywords
  show (strings_Split.f keywordsB ⟨#[32]⟩).bind _ = _
  cases hp : strings_Split.f keywordsB ⟨#[32]⟩ with
  | none => rw [hp] at h; cases h
  | some ps =>
    rw [hp] at h
    have hps : ps.map (·.data.toList) = kwL := Option.some.inj h
    have hlen : ps.length = 17 := by
      have := congrArg List.length hps
      simpa [kwL] using this
    simp only [Option.bind_some]
    rw [contains_is ps s (by omega) k (by omega), hps]
    simp only [Option.bind_some, kw, List.contains_eq_mem]
theorem nameMay_is (s : ByteArray) (k : Nat) (hk : 40 ≤ k) : lex_NameMay.f k s = some (nm s.data.toList) := by
  unfold lex_NameMay.f
  have hsz := list_size s
  rw [toList_data]
  by_cases h0 : s.data.toList = []
  · rw [if_pos h0, h0]
    rfl
  · rw [if_neg h0]
    obtain ⟨c, r, hcr⟩ := List.exists_cons_of_ne_nil h0
    have hlen : r.length + 1 = s.size := by rw [← hsz, hcr]; rfl
    by_cases h1 : (s.size : Int) ≤ 16
    · rw [if_pos h1, if_pos (by omega)]
      have hb : bt s 0 = (c.toNat : Int) := bt_list s 0 c (by rw [hcr]; rfl)
      rw [hb]
      rw [show (⟨#[97, 98, 99, 100, 101, 102, 103, 104, 105, 106, 107, 108, 109, 110, 111, 112, 113, 114, 115, 116, 117, 118, 119, 120, 121, 122]⟩ : ByteArray) = lettersB from rfl, of_is, mem_letters]
      simp only [Option.bind_some]
      by_cases h2 : isLet c = true
      · rw [if_pos h2]
        rw [show (⟨#[97, 98, 99, 100, 101, 102, 103, 104, 105, 106, 107, 108, 109, 110, 111, 112, 113, 114, 115, 116, 117, 118, 119, 120, 121, 122, 48, 49, 50, 51, 52, 53, 54, 55, 56, 57, 95]⟩ : ByteArray) = moreB from rfl, run_is s moreB isMore mem_more (by omega) k (by omega)]
        simp only [Option.bind_some]
        rw [toList_data, extract_list, keyword_is s k (by omega)]
        have hm : isMore c = true := by simp [isMore, h2]
        by_cases h3 : r.all isMore = true
        · have ht : s.data.toList.take (runN isMore s.data.toList) = s.data.toList := by
            have : (c :: r).all isMore = true := by simp only [List.all_cons, hm, h3, Bool.and_self]
            rw [hcr, runN, (tw_all isMore _).1 this, List.take_length]
          rw [if_pos ht]
          simp only [Option.bind_some]
          rw [hcr]
          simp [nm, h2, h3, show r.length < 16 by omega]
        · have ht : ¬ s.data.toList.take (runN isMore s.data.toList) = s.data.toList := by
            intro he
            apply h3
            have hl := congrArg List.length he
            rw [List.length_take, hcr] at hl
            have hle : runN isMore (c :: r) ≤ (c :: r).length := (List.takeWhile_prefix isMore).length_le
            have hfull : runN isMore (c :: r) = (c :: r).length := by omega
            have : (c :: r).takeWhile isMore = c :: r := (List.takeWhile_prefix isMore).eq_of_length hfull
            have h4 := (tw_all isMore _).2 this
            rw [List.all_cons, hm, Bool.true_and] at h4
            exact h4
          rw [if_neg ht, hcr]
          simp [nm, h3]
      · rw [if_neg h2, hcr]
        simp [nm, h2]
    · rw [if_neg h1, hcr]
      simp [nm, show ¬ r.length < 16 by omega]
end Go.Proofs.YtnogfhhfklkbiaaDoor.H

set_option linter.unusedVariables false
set_option linter.unusedSimpArgs false
namespace Go.Proofs.YtnogfhhfklkbiaaDoor.H
open Go.RowKit Go.Proofs.YtnogfhhfklkbiaaDoorW.PrintWords Go.Proofs.YtnogfhhfklkbiaaDoorW.PrintLast Go.Proofs.YtnogfhhfklkbiaaDoorW.PrintMore
def mostN (kind : Int) : Int := if kind = 1 then 1073741823 else if kind = 2 then 1 else if kind = 8 then 5 else -1
theorem most_is (kind : Int) : tree_most.f kind = some (mostN kind) := by
  unfold tree_most.f mostN
  repeat' split
  all_goals first | rfl | omega
def mayS (x : S45) (named : Bool) : Bool :=
  decide (0 ≤ x.f0) && (decide (x.f0 ≤ 10) && (decide (0 ≤ x.f9) && (decide (x.f9 ≤ 4096) &&
    ((decide (mostN x.f0 < 0) || (decide (0 ≤ x.f4) && decide (x.f4 ≤ mostN x.f0))) &&
      ((!named || (namesOf x).all (fun s => nm s.data.toList)) &&
        (let y := noKids (if named = true then noNames x else x)
         bareNode (if 0 ≤ mostN x.f0 ∨ (named = false ∧ (x.f0 = 0 ∨ x.f0 = 9 ∨ x.f0 = 10)) then noNum y else y)))))))
theorem goN_is (k : Nat) (hk : 40 ≤ k) : ∀ ss, goN k ss = some (ss.all fun s => nm s.data.toList)
  | [] => rfl
  | s :: ss => by
    rw [goN, nameMay_is s k hk, Option.bind_some, goN_is k hk ss, List.all_cons]
    cases nm s.data.toList <;> simp
theorem may_is (x : S45) (named : Bool) (k : Nat) (hk : 40 ≤ k) : tree_may.f k x.f0 x.f1 x.f2 x.f3 x.f4 x.f5 x.f6 x.f7 x.f8 x.f9 named = some (mayS x named) := by
  have hx : (⟨x.f0, x.f1, x.f2, x.f3, x.f4, x.f5, x.f6, x.f7, x.f8, x.f9⟩ : S45) = x := rfl
  unfold tree_may.f mayS
  rw [hx, most_is, goN_is k hk]
  by_cases h1 : x.f0 < 0
  · rw [if_pos h1]; simp [show ¬ 0 ≤ x.f0 by omega]
  · rw [if_neg h1]
    by_cases h2 : x.f0 > 10
    · rw [if_pos h2]; simp [show ¬ x.f0 ≤ 10 by omega]
    · rw [if_neg h2]
      by_cases h3 : x.f9 < 0
      · rw [if_pos h3]; simp [show ¬ 0 ≤ x.f9 by omega]
      · rw [if_neg h3]
        by_cases h4 : x.f9 > 4096
        · rw [if_pos h4]; simp [show ¬ x.f9 ≤ 4096 by omega]
        · rw [if_neg h4]
          simp only [Option.bind_some, show 0 ≤ x.f0 by omega, show x.f0 ≤ 10 by omega, show 0 ≤ x.f9 by omega, show x.f9 ≤ 4096 by omega, decide_true, Bool.true_and]
          by_cases h5 : 0 ≤ mostN x.f0 ∧ (x.f4 < 0 ∨ mostN x.f0 < x.f4)
          · rw [if_pos h5]
            have e : (decide (mostN x.f0 < 0) || (decide (0 ≤ x.f4) && decide (x.f4 ≤ mostN x.f0))) = false := by
              rw [Bool.or_eq_false_iff]
              refine ⟨by simp; omega, ?_⟩
              rw [Bool.and_eq_false_iff]
              rcases h5.2 with h | h
              · left; simp; omega
              · right; simp; omega
            rw [e, Bool.false_and]
          · rw [if_neg h5]
            have e : (decide (mostN x.f0 < 0) || (decide (0 ≤ x.f4) && decide (x.f4 ≤ mostN x.f0))) = true := by
              by_cases q : mostN x.f0 < 0
              · simp [q]
              · have : 0 ≤ x.f4 ∧ x.f4 ≤ mostN x.f0 := by omega
                simp [this.1, this.2]
            rw [e, Bool.true_and]
            cases named
            · simp
            · simp only [if_true, Bool.not_true, Bool.false_or]
              cases (namesOf x).all fun s => nm s.data.toList
              · simp
              · simp
def beginS (l : List S45) (a : Int) : Int := match tree_Begin.f (l.length + 1) l a with
  | some r => r
  | none => -1
theorem begin_some (l : List S45) : ∀ (n : Nat) (a : Int) (k : Nat), 0 ≤ a → a < l.length → a.toNat = n → n < k → l.length ≤ 1000000000000000 → ∃ r, tree_Begin.f k l a = some r ∧ r ≤ a ∧ -1 ≤ r := by
  intro n
  induction n using Nat.strongRecOn with
  | _ n ih =>
    intro a k h0 h1 hn hk hl
    obtain ⟨k, rfl⟩ : ∃ m, k = m + 1 := ⟨k - 1, by omega⟩
    rw [tree_Begin.f, if_pos h0, if_pos h1]
    have go : ∀ (cs : List Int) (b : Int), b ≤ a → 0 ≤ b → ∃ r, goB (tree_Begin.f k l) cs b = some r ∧ r ≤ b ∧ -1 ≤ r := by
      intro cs
      induction cs with
      | nil => exact fun b _ hb0 => ⟨b, rfl, Int.le_refl _, by omega⟩
      | cons c cs ihc =>
        intro b hb hb0
        unfold goB
        have hw : wrap64 (b - 1) = b - 1 := by unfold wrap64; omega
        rw [hw]
        by_cases g : b - 1 < 0
        · exact ⟨-1, if_pos g, by omega, Int.le_refl _⟩
        · rw [if_neg g]
          by_cases g2 : c = b - 1
          · rw [if_pos g2]
            obtain ⟨r, hr, hr1, hr2⟩ := ih (b - 1).toNat (by omega) (b - 1) k (by omega) (by omega) rfl (by omega) hl
            rw [hr, Option.bind_some]
            by_cases g3 : r < 0
            · exact ⟨-1, if_pos g3, by omega, Int.le_refl _⟩
            · rw [if_neg g3]
              obtain ⟨q, hq, hq1, hq2⟩ := ihc r (by omega) (by omega)
              exact ⟨q, hq, by omega, hq2⟩
          · exact ⟨-1, if_neg g2, by omega, Int.le_refl _⟩
    exact go _ a (Int.le_refl _) h0
theorem begin_is (l : List S45) (a : Int) (k : Nat) (h0 : 0 ≤ a) (h1 : a < l.length) (hk : l.length < k) (hl : l.length ≤ 1000000000000000) : tree_Begin.f k l a = some (beginS l a) := by
  obtain ⟨r, hr, _⟩ := begin_some l a.toNat a (l.length + 1) h0 h1 rfl (by omega) hl
  have := at_rounds (tree_Begin.mono l a) (show l.length + 1 ≤ k by omega) hr
  rw [this]
  unfold beginS
  rw [hr]
theorem begin_range (l : List S45) (a : Int) (h0 : 0 ≤ a) (h1 : a < l.length) (hl : l.length ≤ 1000000000000000) : beginS l a ≤ a ∧ -1 ≤ beginS l a := by
  obtain ⟨r, hr, h2, h3⟩ := begin_some l a.toNat a (l.length + 1) h0 h1 rfl (by omega) hl
  unfold beginS
  rw [hr]
  exact ⟨h2, h3⟩
def shapedS (l : List S45) (named : Bool) : Bool := decide (1 ≤ l.length) && (decide (l.length ≤ 512) && (l.all (fun x => mayS x named) && (beginS l ((l.length : Int) - 1) == 0)))
theorem rd_at (l : List S45) (i : Nat) (h : i < l.length) : rd_T45 l (i : Int) = l[i] := by
  rw [rd_T45, Int.toNat_natCast, List.getD_eq_getElem?_getD, List.getElem?_eq_getElem h]
  rfl
theorem shaped_loop (l : List S45) (named : Bool) (hl : l.length ≤ 512) (h1 : 1 ≤ l.length) : ∀ (d i k : Nat), l.length - i = d → i ≤ l.length → d + 600 ≤ k →
    tree_Shaped.l0 k l named l (l.length : Int) (i : Int) = some ((l.drop i).all (fun x => mayS x named) && (beginS l ((l.length : Int) - 1) == 0)) := by
  intro d
  induction d with
  | zero =>
    intro i k hd hi hk
    obtain ⟨k, rfl⟩ : ∃ m, k = m + 1 := ⟨k - 1, by omega⟩
    simp only [tree_Shaped.l0]
    rw [if_neg (by omega), show wrap64 ((l.length : Int) - 1) = (l.length : Int) - 1 from by unfold wrap64; omega, begin_is l _ k (by omega) (by omega) (by omega) (by omega), List.drop_eq_nil_of_le (by omega)]
    simp
  | succ d ih =>
    intro i k hd hi hk
    obtain ⟨k, rfl⟩ : ∃ m, k = m + 1 := ⟨k - 1, by omega⟩
    have hlt : i < l.length := by omega
    simp only [tree_Shaped.l0]
    rw [if_pos (by omega), if_pos (by omega), if_pos (by omega), rd_at l i hlt, may_is l[i] named k (by omega), List.drop_eq_getElem_cons hlt, List.all_cons]
    simp only [Option.bind_some]
    cases hm : mayS l[i] named
    · simp
    · simp only [if_true, Bool.true_and]
      rw [wrapS (by omega) (by omega), show ((i : Int) + 1) = ((i + 1 : Nat) : Int) from by omega]
      exact ih (i + 1) k (by omega) (by omega) (by omega)
theorem shaped_is (l : List S45) (named : Bool) (k : Nat) (hk : 1200 ≤ k) : tree_Shaped.f k l named = some (shapedS l named) := by
  obtain ⟨k, rfl⟩ : ∃ m, k = m + 1 := ⟨k - 1, by omega⟩
  unfold tree_Shaped.f shapedS
  by_cases h1 : (l.length : Int) < 1
  · rw [if_pos h1]
    simp [tree_Shaped.j0, show ¬ 1 ≤ l.length by omega]
  · rw [if_neg h1]
    simp only [tree_Shaped.j0]
    by_cases h2 : (l.length : Int) > 512
    · rw [if_pos (by simpa using h2)]
      simp [show ¬ l.length ≤ 512 by omega]
    · rw [if_neg (by simpa using h2)]
      have := shaped_loop l named (by omega) (by omega) l.length 0 k rfl (Nat.zero_le _) (by omega)
      rw [show ((0 : Nat) : Int) = 0 from rfl] at this
      rw [this]
      simp [show 1 ≤ l.length by omega, show l.length ≤ 512 by omega]
def opMayS (o : S48) : Bool := nm o.f0.data.toList && ((o.f1 == 0 || o.f1 == 1) && (o.f2 == 0 || o.f2 == 1))
def opsMayS (os : List S48) : Bool := decide (os.length ≤ 4) && os.all opMayS
theorem bad_is (o : S48) (k : Nat) (hk : 40 ≤ k) : tree_OpsMay_1.f k o.f0 o.f1 o.f2 = some (!opMayS o) := by
  unfold tree_OpsMay_1.f opMayS
  rw [nameMay_is o.f0 k hk]
  simp only [Option.bind_some, tree_base.f]
  cases nm o.f0.data.toList
  · simp
  · by_cases a : o.f1 = 0 <;> by_cases b : o.f1 = 1 <;> by_cases c : o.f2 = 0 <;> by_cases d : o.f2 = 1 <;> simp [a, b, c, d]
theorem goIdx_is (k : Nat) (hk : 40 ≤ k) : ∀ (os : List S48) (i : Nat), ∃ r, goIdx k os i = some r ∧ (0 ≤ r ↔ os.all opMayS = false)
  | [], i => ⟨-1, rfl, by simp⟩
  | o :: os, i => by
    obtain ⟨r, hr, hiff⟩ := goIdx_is k hk os (i + 1)
    rw [goIdx, bad_is o k hk, Option.bind_some, List.all_cons]
    cases opMayS o
    · exact ⟨(i : Int), by simp, by simp⟩
    · exact ⟨r, by simpa using hr, by simpa using hiff⟩
theorem opsMay_is (os : List S48) (k : Nat) (hk : 40 ≤ k) : tree_OpsMay.f k os = some (opsMayS os) := by
  unfold tree_OpsMay.f opsMayS
  by_cases h : os.length ≤ 4
  · obtain ⟨r, hr, hiff⟩ := goIdx_is k hk os 0
    rw [if_pos h, hr, Option.bind_some]
    simp only [h, decide_true, Bool.true_and, Option.some.injEq]
    cases ha : os.all opMayS
    · have := hiff.2 ha
      simp; omega
    · have : ¬ 0 ≤ r := fun hh => by rw [hiff.1 hh] at ha; cases ha
      simp; omega
  · rw [if_neg h]
    simp [h]
def treeMayS (os : List S48) (l : List S45) : Bool := opsMayS os && shapedS l true
theorem treeMay_is (os : List S48) (l : List S45) (k : Nat) (hk : 1200 ≤ k) : tree_May.f k os l = some (treeMayS os l) := by
  unfold tree_May.f treeMayS
  rw [opsMay_is os k (by omega), shaped_is l true k hk]
  cases opsMayS os <;> simp
def thereS (l : List S45) (a : Int) : Bool := (shapedS l true || shapedS l false) && (decide (0 ≤ a) && decide (a < l.length))
theorem there_is (l : List S45) (a : Int) (k : Nat) (hk : 1200 ≤ k) : tree_there.f k l a = some (thereS l a) := by
  unfold tree_there.f thereS
  rw [shaped_is l true k hk, shaped_is l false k hk]
  cases shapedS l true <;> cases shapedS l false <;> by_cases h : 0 ≤ a <;> simp [h]
end Go.Proofs.YtnogfhhfklkbiaaDoor.H

set_option linter.unusedVariables false
set_option linter.unusedSimpArgs false
namespace Go.Proofs.YtnogfhhfklkbiaaDoor.H
open Go.RowKit Go.Proofs.YtnogfhhfklkbiaaDoorW.PrintWords Go.Proofs.YtnogfhhfklkbiaaDoorW.PrintLast Go.Proofs.YtnogfhhfklkbiaaDoorW.PrintMore
theorem toList_inj {a b : ByteArray} : a.toList = b.toList ↔ a = b := by
  rw [toList_data, toList_data]
  exact ⟨bytes_ext, fun h => by rw [h]⟩
theorem toList_beq (a b : ByteArray) : (a.toList == b.toList) = decide (a = b) := by
  by_cases h : a = b
  · subst h; simp
  · have : ¬ a.toList = b.toList := fun h' => h (toList_inj.1 h')
    rw [decide_eq_false h]
    simpa using this
theorem node_ext {x y : S45} (h0 : x.f0 = y.f0) (h1 : x.f1 = y.f1) (h2 : x.f2 = y.f2) (h3 : x.f3 = y.f3) (h4 : x.f4 = y.f4) (h5 : x.f5 = y.f5) (h6 : x.f6 = y.f6) (h7 : x.f7 = y.f7) (h8 : x.f8 = y.f8) (h9 : x.f9 = y.f9) : x = y := by
  cases x; cases y
  simp only at h0 h1 h2 h3 h4 h5 h6 h7 h8 h9
  subst h0; subst h1; subst h2; subst h3; subst h4; subst h5; subst h6; subst h7; subst h8; subst h9
  rfl
def eqNode (x y : S45) : Bool := x.f0 == y.f0 && (x.f1 == y.f1 && (x.f2 == y.f2 && (x.f3 == y.f3 && (x.f4 == y.f4 && (decide (x.f5 = y.f5) && (decide (x.f6 = y.f6) && (decide (x.f7 = y.f7) && (decide (x.f8 = y.f8) && x.f9 == y.f9))))))))
theorem eqNode_iff (x y : S45) : eqNode x y = true ↔ x = y := by
  constructor
  · intro h
    simp only [eqNode, Bool.and_eq_true, beq_iff_eq, decide_eq_true_eq] at h
    obtain ⟨h0, h1, h2, h3, h4, h5, h6, h7, h8, h9⟩ := h
    exact node_ext h0 h1 h2 h3 h4 h5 h6 h7 h8 h9
  · rintro rfl
    simp [eqNode]
def likeNode (x y : S45) : Bool := x.f0 == y.f0 && (x.f1 == y.f1 && (x.f2 == y.f2 && (x.f3 == y.f3 && (x.f4 == y.f4 && (decide (x.f5 = y.f5) && (decide (x.f6 = y.f6) && (decide (x.f7 = y.f7) && decide (x.f8 = y.f8))))))))
theorem sameNode_like (x y : S45) : sameNode x y = likeNode x y := by
  unfold sameNode likeNode
  simp only [toList_beq]
def eqNodes : List S45 → List S45 → Bool
  | x :: xs, y :: ys => eqNode x y && eqNodes xs ys
  | [], [] => true
  | _, _ => false
theorem eqNodes_iff : ∀ xs ys, eqNodes xs ys = true ↔ xs = ys
  | x :: xs, y :: ys => by rw [eqNodes, Bool.and_eq_true, eqNode_iff, eqNodes_iff xs ys, List.cons.injEq]
  | [], [] => by simp [eqNodes]
  | [], y :: ys => by simp [eqNodes]
  | x :: xs, [] => by simp [eqNodes]
def likeNodes : List S45 → List S45 → Bool
  | x :: xs, y :: ys => likeNode x y && likeNodes xs ys
  | [], [] => true
  | _, _ => false
theorem sameNodes_like : ∀ xs ys, sameNodes xs ys = likeNodes xs ys
  | x :: xs, y :: ys => by rw [sameNodes, likeNodes, sameNode_like, sameNodes_like xs ys]
  | [], [] => rfl
  | [], y :: ys => rfl
  | x :: xs, [] => rfl
theorem same_loop (l m : List S45) (hlm : l.length = m.length) (hl : l.length ≤ 1000000000000000) : ∀ (d i k : Nat), l.length - i = d → i ≤ l.length → d < k → trammellaw0_SameNodes.l0 k l m (i : Int) = some (eqNodes (l.drop i) (m.drop i)) := by
  intro d
  induction d with
  | zero =>
    intro i k hd hi hk
    obtain ⟨k, rfl⟩ : ∃ n, k = n + 1 := ⟨k - 1, by omega⟩
    simp only [trammellaw0_SameNodes.l0]
    rw [if_neg (by omega), List.drop_eq_nil_of_le (by omega), List.drop_eq_nil_of_le (by omega)]
    rfl
  | succ d ih =>
    intro i k hd hi hk
    obtain ⟨k, rfl⟩ : ∃ n, k = n + 1 := ⟨k - 1, by omega⟩
    have hlt : i < l.length := by omega
    have hmt : i < m.length := by omega
    simp only [trammellaw0_SameNodes.l0]
    rw [if_pos (by omega), if_pos (by omega), if_pos (by omega), rd_at l i hlt, rd_at m i hmt, List.drop_eq_getElem_cons hlt, List.drop_eq_getElem_cons hmt, eqNodes]
    simp only [toList_beq]
    have e : ∀ x y : S45, (!(x.f0 == y.f0) || (!(x.f1 == y.f1) || (!(x.f2 == y.f2) || (!(x.f3 == y.f3) || (!(x.f4 == y.f4) || (!(decide (x.f5 = y.f5)) || (!(decide (x.f6 = y.f6)) || (!(decide (x.f7 = y.f7)) || (!(decide (x.f8 = y.f8)) || (!(x.f9 == y.f9))))))))))) = !eqNode x y := by
      intro x y
      simp only [eqNode, Bool.not_and]
    rw [e]
    cases eqNode l[i] m[i]
    · simp
    · simp only [Bool.not_true, Bool.false_eq_true, if_false, Bool.true_and]
      rw [wrapS (by omega) (by omega), show ((i : Int) + 1) = ((i + 1 : Nat) : Int) from by omega]
      exact ih (i + 1) k (by omega) (by omega) (by omega)
theorem sameN_is (l m : List S45) (k : Nat) (hk : l.length < k) (hl : l.length ≤ 1000000000000000) : trammellaw0_SameNodes.f k l m = some (eqNodes l m) := by
  unfold trammellaw0_SameNodes.f
  by_cases h : l.length = m.length
  · rw [if_pos (by omega)]
    have := same_loop l m h hl l.length 0 k rfl (Nat.zero_le _) hk
    simpa using this
  · rw [if_neg (by omega)]
    cases he : eqNodes l m
    · rfl
    · exact (h (by rw [(eqNodes_iff l m).1 he])).elim
theorem same_is (l m : List S45) (hl : l.length ≤ 1000000000000000) : tree_Same.f l m = some (likeNodes l m) := by
  unfold tree_Same.f
  rw [if_pos (by omega), sameNodes_like]
def depthQ (l : List S45) (a : Int) : Option (Int × Int) := if thereS l a = true then (tree_depth.f 1300 l a).bind fun d => some (d, 0) else some (0, 300)
theorem depth_Q (l : List S45) (a : Int) : tree_Depth.f 1300 l a = depthQ l a := by
  unfold tree_Depth.f depthQ
  rw [there_is l a 1300 (by decide), Option.bind_some]
def partQ (l : List S45) (a : Int) : Option ((List S45) × Int) :=
  if thereS l a = true then (tree_Begin.f 1300 l a).bind fun b => if 0 ≤ b ∧ b ≤ a ∧ a < l.length ∧ l.length < 1256584717458 then some (((l.drop b.toNat).take (a + 1 - b).toNat).map (movedKids b), 0) else none else some ([], 300)
theorem part_Q (l : List S45) (a : Int) : tree_Part.f 1300 l a = partQ l a := by
  unfold tree_Part.f partQ
  rw [there_is l a 1300 (by decide), Option.bind_some]
def sameQ (l m : List S45) : Option Bool := if l.length < 1300 then some (eqNodes l m) else trammellaw0_SameNodes.f 1300 l m
theorem same_Q (l m : List S45) : trammellaw0_SameNodes.f 1300 l m = sameQ l m := by
  unfold sameQ
  split
  · rename_i h
    exact sameN_is l m 1300 h (by omega)
  · rfl
def likeQ (l m : List S45) : Option Bool := if l.length ≤ 9223372036854775807 then some (likeNodes l m) else none
theorem like_Q (l m : List S45) : tree_Same.f l m = likeQ l m := by
  unfold tree_Same.f likeQ
  rw [sameNodes_like]
theorem treeMay_Q (os : List S48) (l : List S45) : tree_May.f 1300 os l = some (treeMayS os l) := treeMay_is os l 1300 (by decide)
end Go.Proofs.YtnogfhhfklkbiaaDoor.H

namespace Go.Proofs.YtnogfhhfklkbiaaDoor.H
open Go.RowKit Go.Proofs.YtnogfhhfklkbiaaDoorW.PrintWords Go.Proofs.YtnogfhhfklkbiaaDoorW.PrintLast Go.Proofs.YtnogfhhfklkbiaaDoorW.PrintMore
attribute [local go_sem] max2_int min2_int max_two min_two max_three min_three max_four min_four
set_option linter.unusedVariables false
set_option linter.unusedSimpArgs false
def trammellaw3_awake.f (k : Nat)  : Option (Bool) := (some (([(⟨0, 0, 0, 0, 0, (⟨#[120]⟩ : ByteArray), (⟨#[]⟩ : ByteArray), (⟨#[]⟩ : ByteArray), (⟨#[]⟩ : ByteArray), 0⟩ : S45), (⟨1, 0, 0, 0, 4, (⟨#[]⟩ : ByteArray), (⟨#[]⟩ : ByteArray), (⟨#[]⟩ : ByteArray), (⟨#[]⟩ : ByteArray), 0⟩ : S45), (⟨8, 0, 1, 0, 0, (⟨#[]⟩ : ByteArray), (⟨#[]⟩ : ByteArray), (⟨#[]⟩ : ByteArray), (⟨#[]⟩ : ByteArray), 0⟩ : S45), (⟨3, 2, 0, 0, 0, (⟨#[]⟩ : ByteArray), (⟨#[120]⟩ : ByteArray), (⟨#[]⟩ : ByteArray), (⟨#[]⟩ : ByteArray), 0⟩ : S45)] : List (S45)) : List (S45))).bind fun y322 => ((tree_Depth.f k y322 3).bind fun bt325 => ((tree_Part.f k y322 2).bind fun bt327 => ((tree_Depth.f k y322 4).bind fun bt331 => (if 1 ≤ (y322.length : Int) then ((tree_Part.f k (y322.drop 1) 0).bind fun bt337 => ((trammellaw0_CopyNodes.f y322).bind fun t341 => (if 0 < (t341.length : Int) then (if bt325.1 = 3 then ((trammellaw0_Num.f bt325.2).bind fun t345 => (if t345 = 0 then (if 3 ≤ (y322.length : Int) then ((trammellaw0_SameNodes.f k bt327.1 (y322.take 3)).bind fun t350 => (if t350 = true then ((trammellaw0_Num.f bt327.2).bind fun t351 => (if t351 = 0 then ((trammellaw0_Num.f bt331.2).bind fun t352 => (if t352 = 300 then ((trammellaw0_Num.f bt337.2).bind fun t353 => (if t353 = 300 then ((tree_May.f k ([] : List (S48)) y322).bind fun t354 => (if t354 = true then ((tree_May.f k ([] : List (S48)) ([] : List (S45))).bind fun t355 => (if t355 = true then (some false) else ((tree_Same.f y322 (t341.set (0 : Int).toNat (⟨(rd_T45 t341 0).f0, (rd_T45 t341 0).f1, (rd_T45 t341 0).f2, (rd_T45 t341 0).f3, (rd_T45 t341 0).f4, (rd_T45 t341 0).f5, (rd_T45 t341 0).f6, (rd_T45 t341 0).f7, (rd_T45 t341 0).f8, 9⟩ : S45))).bind fun t356 => (if t356 = true then ((tree_Same.f y322 (y322.take 3)).bind fun t361 => (some (!t361))) else (some false))))) else (some false))) else (some false))) else (some false))) else (some false))) else (some false))) else (none)) else (some false))) else (some false)) else (none)))) else (none)))))
theorem trammellaw3_awake.mono : ∀ k, LeO (trammellaw3_awake.f k ) (trammellaw3_awake.f (k + 1) ) := by
  intro  k
  unfold trammellaw3_awake.f
  repeat' first
      | (with_reducible exact trammellaw0_SameNodes.mono _ _ _)
      | (with_reducible exact tree_Depth.mono _ _ _)
      | (with_reducible exact tree_May.mono _ _ _)
      | (with_reducible exact tree_Part.mono _ _ _)
      | (with_reducible exact LeO.refl _)
      | (with_reducible exact LeO.none _)
      | (with_reducible refine LeO.ite ?_ ?_)
      | (with_reducible refine LeO.bind ?_ (fun _ => ?_))
      | exact trammellaw0_SameNodes.mono _ _ _
      | exact tree_Depth.mono _ _ _
      | exact tree_May.mono _ _ _
      | exact tree_Part.mono _ _ _
      | exact LeO.none _
      | refine LeO.ite ?_ ?_
      | refine LeO.bind ?_ (fun _ => ?_)
end Go.Proofs.YtnogfhhfklkbiaaDoor.H
