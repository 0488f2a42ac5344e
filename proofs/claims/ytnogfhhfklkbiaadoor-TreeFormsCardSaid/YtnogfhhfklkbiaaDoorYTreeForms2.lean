/- Several texts in one: contracts of functions of the program, and what they lean on. In part written by a program of this session over the kit's print, in part by hand. -/
import Derived.Test.YtnogfhhfklkbiaaDoorT0
import Derived.Test.YtnogfhhfklkbiaaDoorT3
import Derived.Test.YtnogfhhfklkbiaaDoorT5
import Derived.Test.YtnogfhhfklkbiaaDoorYTreeForms0
import Derived.Test.YtnogfhhfklkbiaaDoorYTreeForms1
namespace Go.Proofs.YtnogfhhfklkbiaaDoor.H
open Go.RowKit Go.Proofs.YtnogfhhfklkbiaaDoorW.PrintWords Go.Proofs.YtnogfhhfklkbiaaDoorW.PrintLast Go.Proofs.YtnogfhhfklkbiaaDoorW.PrintMore
attribute [local go_sem] max2_int min2_int max_two min_two max_three min_three max_four min_four   -- for this text's walks alone
set_option linter.unusedVariables false
set_option linter.unusedSimpArgs false

set_option maxHeartbeats 8000000 in
set_option maxRecDepth 100000 in
theorem trammellaw3_TreeForms.callsHi (k : Nat) (a0 : Int) (a1 : Int) (r : Bool) (w : World) (htrue : r = true) (h : trammellaw3_TreeForms.f k a0 a1 = some r) (hp0 : 0 ≤ (Int.tmod (IntKind.u64.wrap (a0)) 20)) (hpart : 10 ≤ (Int.tmod (IntKind.u64.wrap (a0)) 20)) :
    Calls Tryd.prog 5 #[.int .i64 a0, .int .i64 a1] w fun e w' => e = .returned (.bool r) ∧ Below w.heap.size w w' := by
  have HP0 := Aside0.mk hp0
  have HPART := Aside0.mk hpart
  clear hp0 hpart
  have HTRUE := Aside0.mk htrue
  clear htrue
  have hu48 := Tryd.underlying48
  have hu45 := Tryd.underlying45
  have hu25 := Tryd.underlying25
  have HB := Aside0.mk (Below.refl w.heap.size w)
  have H := h
  clear h
  unfold trammellaw3_TreeForms.f at H
  replace H := Option.bind_eq_some_iff.mp H
  obtain ⟨t353, A30, H⟩ := H
  (try dsimp only at H)
  have A3 := Aside0.mk A30
  clear A30
  by_cases c4 : t353 = true
  · subst c4
    have H1 := (if_pos rfl).symm.trans H
    clear H
    have H := H1
    clear H1
    obtain ⟨y354, hy354⟩ : ∃ y_ : List (S48), y_ = (([(⟨(⟨#[97]⟩ : ByteArray), 0, 0⟩ : S48)] : List (S48))) := ⟨_, rfl⟩
    first | rw [Option.bind_some, ← hy354] at H | rw [← hy354] at H
    (try dsimp only at H)
    have Ny354 := Aside0.mk hy354
    clear hy354
    obtain ⟨y357, hy357⟩ : ∃ y_ : List (S45), y_ = (([(⟨0, 0, 0, 0, 0, (⟨#[120]⟩ : ByteArray), (⟨#[]⟩ : ByteArray), (⟨#[]⟩ : ByteArray), (⟨#[]⟩ : ByteArray), 0⟩ : S45), (⟨1, 0, 0, 0, 4, (⟨#[]⟩ : ByteArray), (⟨#[]⟩ : ByteArray), (⟨#[]⟩ : ByteArray), (⟨#[]⟩ : ByteArray), 0⟩ : S45), (⟨8, 0, 1, 0, 5, (⟨#[]⟩ : ByteArray), (⟨#[]⟩ : ByteArray), (⟨#[]⟩ : ByteArray), (⟨#[]⟩ : ByteArray), 0⟩ : S45), (⟨3, 2, 0, 0, 0, (⟨#[]⟩ : ByteArray), (⟨#[120]⟩ : ByteArray), (⟨#[]⟩ : ByteArray), (⟨#[]⟩ : ByteArray), 0⟩ : S45)] : List (S45))) := ⟨_, rfl⟩
    first | rw [Option.bind_some, ← hy357] at H | rw [← hy357] at H
    (try dsimp only at H)
    have Ny357 := Aside0.mk hy357
    clear hy357
    replace H := Option.bind_eq_some_iff.mp H
    obtain ⟨t361, A50, H⟩ := H
    (try dsimp only at H)
    have A5 := Aside0.mk A50
    clear A50
    by_cases c6 : t361 = true
    · subst c6
      have H1 := (if_pos rfl).symm.trans H
      clear H
      have H := H1
      clear H1
      go_enter Tryd.func5, Tryd.ntmps5
      go_upto_region 9 with (first | ((with_reducible refine gate_callee (f := 26) rfl ?_); refine goesL_ (some 7) rfl rfl Tryd.func26 (by kernel_rfl) rfl #[] rfl (by (try simp only [List.map_toArray, List.map_cons, List.map_nil]); first | done | rfl | (simp only [List.length_drop, List.length_take]; rfl)) ?_; (with_reducible refine (trammellaw3_awake.calls k  true _ A3.out).mono ?_); rintro e w11 ⟨rfl, hb⟩; refine ⟨_, rfl, ?_⟩; have n0_ := Aside0.mk (below_step (by repeat (first | (with_reducible first | exact HB.out | apply below_alloc | apply pw_below_drewN | apply below_drew1) | exact HB.out)) hb); clear HB; have HB := n0_; clear n0_; (try clear hb); (try clear hb2); (try clear hk); (try clear hi)) | ((with_reducible refine gate_dst (N := 13) rfl ?_); refine Kd.R_lit k48 _ 48 ?hg (N := 13) ?hd (xs := ([(⟨(⟨#[97]⟩ : ByteArray), 0, 0⟩ : S48)] : List (S48))) (inner := [.string (⟨#[97]⟩ : ByteArray), .int .i64 0, .int .i64 0]) (ok := fun _ => True) (okp := fun _ => True) ?hr ?hp (fun _ hk => hk) trivial (Below.refl _ _) (Nat.le_refl _) (by simp) ?_; (case hd => rfl); (case hg => rfl); (case hr => first | (go_simp; done) | (go_simp; rfl)); (case hp => exact (Reps.c3 (show Kd.M k48 _ _ _ (⟨(⟨#[97]⟩ : ByteArray), 0, 0⟩ : S48) [.string (⟨#[97]⟩ : ByteArray), .int .i64 0, .int .i64 0] from (k48_mkM _ _ _ (⟨(⟨#[97]⟩ : ByteArray), 0, 0⟩ : S48) )) (Reps.none _ _))); intro v355 w12 ho13 hb hg_ hnew_; clear hg_ hnew_; (first | rw [← Ny354.out] at ho13 | (simp only [Int.reduceToNat] at ho13; rw [← Ny354.out] at ho13)); have n0_ := Aside0.mk (Kd.R_lower ho13 (below_size (by repeat (first | (with_reducible first | exact HB.out | apply below_alloc | apply pw_below_drewN | apply below_drew1) | exact HB.out)))); have n1_ := Aside0.mk (below_step (by repeat (first | (with_reducible first | exact HB.out | apply below_alloc | apply pw_below_drewN | apply below_drew1) | exact HB.out)) hb); clear HB; have HO356 := n0_; have HB := n1_; clear n0_ n1_; clear hb ho13) | ((with_reducible refine gate_dst (N := 18) rfl ?_); refine Kd.R_lit k45 _ 45 ?hg (N := 18) ?hd (xs := ([(⟨0, 0, 0, 0, 0, (⟨#[120]⟩ : ByteArray), (⟨#[]⟩ : ByteArray), (⟨#[]⟩ : ByteArray), (⟨#[]⟩ : ByteArray), 0⟩ : S45), (⟨1, 0, 0, 0, 4, (⟨#[]⟩ : ByteArray), (⟨#[]⟩ : ByteArray), (⟨#[]⟩ : ByteArray), (⟨#[]⟩ : ByteArray), 0⟩ : S45), (⟨8, 0, 1, 0, 5, (⟨#[]⟩ : ByteArray), (⟨#[]⟩ : ByteArray), (⟨#[]⟩ : ByteArray), (⟨#[]⟩ : ByteArray), 0⟩ : S45), (⟨3, 2, 0, 0, 0, (⟨#[]⟩ : ByteArray), (⟨#[120]⟩ : ByteArray), (⟨#[]⟩ : ByteArray), (⟨#[]⟩ : ByteArray), 0⟩ : S45)] : List (S45))) (inner := [.int .i64 0, .int .i64 0, .int .i64 0, .int .i64 0, .int .i64 0, .string (⟨#[120]⟩ : ByteArray), .string (⟨#[]⟩ : ByteArray), .string (⟨#[]⟩ : ByteArray), .string (⟨#[]⟩ : ByteArray), .int .i64 0, .int .i64 1, .int .i64 0, .int .i64 0, .int .i64 0, .int .i64 4, .string (⟨#[]⟩ : ByteArray), .string (⟨#[]⟩ : ByteArray), .string (⟨#[]⟩ : ByteArray), .string (⟨#[]⟩ : ByteArray), .int .i64 0, .int .i64 8, .int .i64 0, .int .i64 1, .int .i64 0, .int .i64 5, .string (⟨#[]⟩ : ByteArray), .string (⟨#[]⟩ : ByteArray), .string (⟨#[]⟩ : ByteArray), .string (⟨#[]⟩ : ByteArray), .int .i64 0, .int .i64 3, .int .i64 2, .int .i64 0, .int .i64 0, .int .i64 0, .string (⟨#[]⟩ : ByteArray), .string (⟨#[120]⟩ : ByteArray), .string (⟨#[]⟩ : ByteArray), .string (⟨#[]⟩ : ByteArray), .int .i64 0]) (ok := fun _ => True) (okp := fun _ => True) ?hr ?hp (fun _ hk => hk) trivial (Below.refl _ _) (Nat.le_refl _) (by simp) ?_; (case hd => rfl); (case hg => rfl); (case hr => first | (go_simp; done) | (go_simp; rfl)); (case hp => exact (Reps.c10 (show Kd.M k45 _ _ _ (⟨0, 0, 0, 0, 0, (⟨#[120]⟩ : ByteArray), (⟨#[]⟩ : ByteArray), (⟨#[]⟩ : ByteArray), (⟨#[]⟩ : ByteArray), 0⟩ : S45) [.int .i64 0, .int .i64 0, .int .i64 0, .int .i64 0, .int .i64 0, .string (⟨#[120]⟩ : ByteArray), .string (⟨#[]⟩ : ByteArray), .string (⟨#[]⟩ : ByteArray), .string (⟨#[]⟩ : ByteArray), .int .i64 0] from (k45_mkM _ _ _ (⟨0, 0, 0, 0, 0, (⟨#[120]⟩ : ByteArray), (⟨#[]⟩ : ByteArray), (⟨#[]⟩ : ByteArray), (⟨#[]⟩ : ByteArray), 0⟩ : S45) )) (Reps.c10 (show Kd.M k45 _ _ _ (⟨1, 0, 0, 0, 4, (⟨#[]⟩ : ByteArray), (⟨#[]⟩ : ByteArray), (⟨#[]⟩ : ByteArray), (⟨#[]⟩ : ByteArray), 0⟩ : S45) [.int .i64 1, .int .i64 0, .int .i64 0, .int .i64 0, .int .i64 4, .string (⟨#[]⟩ : ByteArray), .string (⟨#[]⟩ : ByteArray), .string (⟨#[]⟩ : ByteArray), .string (⟨#[]⟩ : ByteArray), .int .i64 0] from (k45_mkM _ _ _ (⟨1, 0, 0, 0, 4, (⟨#[]⟩ : ByteArray), (⟨#[]⟩ : ByteArray), (⟨#[]⟩ : ByteArray), (⟨#[]⟩ : ByteArray), 0⟩ : S45) )) (Reps.c10 (show Kd.M k45 _ _ _ (⟨8, 0, 1, 0, 5, (⟨#[]⟩ : ByteArray), (⟨#[]⟩ : ByteArray), (⟨#[]⟩ : ByteArray), (⟨#[]⟩ : ByteArray), 0⟩ : S45) [.int .i64 8, .int .i64 0, .int .i64 1, .int .i64 0, .int .i64 5, .string (⟨#[]⟩ : ByteArray), .string (⟨#[]⟩ : ByteArray), .string (⟨#[]⟩ : ByteArray), .string (⟨#[]⟩ : ByteArray), .int .i64 0] from (k45_mkM _ _ _ (⟨8, 0, 1, 0, 5, (⟨#[]⟩ : ByteArray), (⟨#[]⟩ : ByteArray), (⟨#[]⟩ : ByteArray), (⟨#[]⟩ : ByteArray), 0⟩ : S45) )) (Reps.c10 (show Kd.M k45 _ _ _ (⟨3, 2, 0, 0, 0, (⟨#[]⟩ : ByteArray), (⟨#[120]⟩ : ByteArray), (⟨#[]⟩ : ByteArray), (⟨#[]⟩ : ByteArray), 0⟩ : S45) [.int .i64 3, .int .i64 2, .int .i64 0, .int .i64 0, .int .i64 0, .string (⟨#[]⟩ : ByteArray), .string (⟨#[120]⟩ : ByteArray), .string (⟨#[]⟩ : ByteArray), .string (⟨#[]⟩ : ByteArray), .int .i64 0] from (k45_mkM _ _ _ (⟨3, 2, 0, 0, 0, (⟨#[]⟩ : ByteArray), (⟨#[120]⟩ : ByteArray), (⟨#[]⟩ : ByteArray), (⟨#[]⟩ : ByteArray), 0⟩ : S45) )) (Reps.none _ _)))))); intro v358 w14 ho15 hb hg_ hnew_; clear hg_ hnew_; (first | rw [← Ny357.out] at ho15 | (simp only [Int.reduceToNat] at ho15; rw [← Ny357.out] at ho15)); have n0_ := Aside0.mk (Kd.R_below (by (with_reducible repeat (first | apply Kd.R_alloc | apply Kd.R_drewN | apply Kd.R_drew)); exact HO356.out) hb); have n1_ := Aside0.mk (Kd.R_lower ho15 (below_size (by repeat (first | (with_reducible first | exact HB.out | apply below_alloc | apply pw_below_drewN | apply below_drew1) | exact HB.out)))); have n2_ := Aside0.mk (below_step (by repeat (first | (with_reducible first | exact HB.out | apply below_alloc | apply pw_below_drewN | apply below_drew1) | exact HB.out)) hb); clear HO356; clear HB; have HO356 := n0_; have HO359 := n1_; have HB := n2_; clear n0_ n1_ n2_; clear hb ho15; obtain ⟨Ao16, co16, eo16⟩ := Kd.R_slice HO359.out; subst eo16; obtain ⟨Ao17, co17, eo17⟩ := Kd.R_slice HO356.out; subst eo17) | ((with_reducible refine gate_dst (N := 6) rfl ?_); refine box_event ?hg (N := 6) ?hd (cs := #[.slice none 0 0, .slice none 0 0]) (t := 25) ?hr ?_; (case hd => rfl); (case hg => rfl); (case hr => first | (go_simp; done) | (go_simp; rfl)); intro gb360 hg w18 hbox hb; have n0_ := Aside0.mk (Kd.R_below (by (with_reducible repeat (first | apply Kd.R_alloc | apply Kd.R_drewN | apply Kd.R_drew)); exact HO356.out) hb); have n1_ := Aside0.mk (Kd.R_below (by (with_reducible repeat (first | apply Kd.R_alloc | apply Kd.R_drewN | apply Kd.R_drew)); exact HO359.out) hb); have n2_ := Aside0.mk (below_step (by repeat (first | (with_reducible first | exact HB.out | apply below_alloc | apply pw_below_drewN | apply below_drew1) | exact HB.out)) hb); have n3_ := Aside0.mk (hbox); have n4_ := Aside0.mk ((by rw [hg]; exact (below_size (by repeat (first | (with_reducible first | exact HB.out | apply below_alloc | apply pw_below_drewN | apply below_drew1) | exact HB.out))) : w.heap.size ≤ gb360)); have n5_ := Aside0.mk ((by rw [hg]; exact (below_size (by repeat (first | (with_reducible first | exact HB.out | apply below_alloc | apply pw_below_drewN | apply below_drew1) | exact HB.out))) : w.heap.size ≤ gb360)); clear HO356; clear HO359; clear HB; have HO356 := n0_; have HO359 := n1_; have HB := n2_; have BK360 := n3_; have GW360 := n4_; have GE360 := n5_; clear n0_ n1_ n2_ n3_ n4_ n5_; clear hb hbox hg; have hcz19_0 : w18.cell? ⟨gb360, 0, none⟩ = some (.slice none 0 0) := (blk_cell BK360.out 0).trans rfl; have hcz19_1 : w18.cell? ⟨gb360, 1, none⟩ = some (.slice none 0 0) := (blk_cell BK360.out 1).trans rfl; have hfz19_0 := blk_frozen BK360.out 0; have hfz19_1 := blk_frozen BK360.out 1) | ((with_reducible refine gate_callee (f := 20) rfl ?_); refine goesL_ (some 21) rfl rfl Tryd.func20 (by kernel_rfl) rfl #[.agg #[.slice Ao17 y354.length co17, .slice Ao16 y357.length co16]] rfl (by (try simp only [List.map_toArray, List.map_cons, List.map_nil]); first | done | rfl | (simp only [List.length_drop, List.length_take]; rfl)) ?_; (with_reducible refine (tree_May.calls k _ _ y354 _ _ y357 true _ ?side1 ?side2 ?side3 ?side4 A5.out).mono ?_); (case side1 => refine (Kd.R_reads' (e := 48) (base := w.heap.size) (ok := fun k_ => True) (n := y354.length) (c := co17) ?_).2.2; exact (by (with_reducible repeat (first | apply Kd.R_alloc | apply Kd.R_drewN | apply Kd.R_drew)); exact (Kd.R_mono (Kd.R_far (p := ⟨gb360, 1, none⟩) (Kd.R_far (p := ⟨gb360, 0, none⟩) (Kd.R_types HO356.out BK360.out (by decide)) (fun _ hk => hk.2) (.slice Ao17 y354.length co17)) (fun _ hk => hk.2) (.slice Ao16 y357.length co16)) (fun _ h_ => h_.1)))); (case side2 => exact (Kd.R_reads' HO356.out).2.1); (case side3 => refine (Kd.R_reads' (e := 45) (base := w.heap.size) (ok := fun k_ => True) (n := y357.length) (c := co16) ?_).2.2; exact (by (with_reducible repeat (first | apply Kd.R_alloc | apply Kd.R_drewN | apply Kd.R_drew)); exact (Kd.R_mono (Kd.R_far (p := ⟨gb360, 1, none⟩) (Kd.R_far (p := ⟨gb360, 0, none⟩) (Kd.R_types HO359.out BK360.out (by decide)) (fun _ hk => hk.2) (.slice Ao17 y354.length co17)) (fun _ hk => hk.2) (.slice Ao16 y357.length co16)) (fun _ h_ => h_.1)))); (case side4 => exact (Kd.R_reads' HO359.out).2.1); rintro e w20 ⟨rfl, hb⟩; refine ⟨_, rfl, ?_⟩; have n0_ := Aside0.mk (Kd.R_below (by (with_reducible repeat (first | apply Kd.R_alloc | apply Kd.R_drewN | apply Kd.R_drew)); exact (Kd.R_mono (Kd.R_far (p := ⟨gb360, 1, none⟩) (Kd.R_far (p := ⟨gb360, 0, none⟩) (Kd.R_types HO356.out BK360.out (by decide)) (fun _ hk => hk.2) (.slice Ao17 y354.length co17)) (fun _ hk => hk.2) (.slice Ao16 y357.length co16)) (fun _ h_ => h_.1))) hb); have n1_ := Aside0.mk (Kd.R_below (by (with_reducible repeat (first | apply Kd.R_alloc | apply Kd.R_drewN | apply Kd.R_drew)); exact (Kd.R_mono (Kd.R_far (p := ⟨gb360, 1, none⟩) (Kd.R_far (p := ⟨gb360, 0, none⟩) (Kd.R_types HO359.out BK360.out (by decide)) (fun _ hk => hk.2) (.slice Ao17 y354.length co17)) (fun _ hk => hk.2) (.slice Ao16 y357.length co16)) (fun _ h_ => h_.1))) hb); have n2_ := Aside0.mk (blk_below (g := gb360) (o := .cells #[.slice Ao17 y354.length co17, .slice Ao16 y357.length co16] 25 (0, 0)) (by (with_reducible repeat (first | refine blk_drewN ?_ _ | refine blk_drew ?_ | refine blk_alloc ?_ _)); refine blk_put (cs := #[.slice Ao17 y354.length co17, .slice none 0 0]) ?_ 1 _ rfl; (with_reducible repeat (first | refine blk_drewN ?_ _ | refine blk_drew ?_ | refine blk_alloc ?_ _)); refine blk_put (cs := #[.slice none 0 0, .slice none 0 0]) ?_ 0 _ rfl; (with_reducible repeat (first | refine blk_drewN ?_ _ | refine blk_drew ?_ | refine blk_alloc ?_ _)); exact BK360.out) hb); have n3_ := Aside0.mk (below_step (by repeat (first | (with_reducible first | exact HB.out | apply below_alloc | apply pw_below_drewN | apply below_drew1 | refine below_set ?_ GE360.out) | exact HB.out)) hb); clear HO356; clear HO359; clear BK360; clear HB; have HO356 := n0_; have HO359 := n1_; have BK360 := n2_; have HB := n3_; clear n0_ n1_ n2_ n3_; (try clear hb); (try clear hb2); (try clear hk); (try clear hi)))
      by_cases c7 : (Int.tmod (IntKind.u64.wrap (a0)) 20) = 0
      · exact (forms_hi HPART.out c7 (by decide)).elim
      · rw [if_neg c7] at H
        have c7b0 : ((Int.tmod (IntKind.u64.wrap (a0)) 20) == 0) = false := beq_eq_false_iff_ne.mpr c7
        have c7b1 : ((Int.tmod (IntKind.u64.wrap (a0)) 20) != 0) = true := bne_iff_ne.mpr c7
        by_cases c26 : (Int.tmod (IntKind.u64.wrap (a0)) 20) = 1
        · exact (forms_hi HPART.out c26 (by decide)).elim
        · rw [if_neg c26] at H
          have c26b0 : ((Int.tmod (IntKind.u64.wrap (a0)) 20) == 1) = false := beq_eq_false_iff_ne.mpr c26
          have c26b1 : ((Int.tmod (IntKind.u64.wrap (a0)) 20) != 1) = true := bne_iff_ne.mpr c26
          by_cases c45 : (Int.tmod (IntKind.u64.wrap (a0)) 20) = 2
          · exact (forms_hi HPART.out c45 (by decide)).elim
          · rw [if_neg c45] at H
            have c45b0 : ((Int.tmod (IntKind.u64.wrap (a0)) 20) == 2) = false := beq_eq_false_iff_ne.mpr c45
            have c45b1 : ((Int.tmod (IntKind.u64.wrap (a0)) 20) != 2) = true := bne_iff_ne.mpr c45
            by_cases c64 : (Int.tmod (IntKind.u64.wrap (a0)) 20) = 3
            · exact (forms_hi HPART.out c64 (by decide)).elim
            · rw [if_neg c64] at H
              have c64b0 : ((Int.tmod (IntKind.u64.wrap (a0)) 20) == 3) = false := beq_eq_false_iff_ne.mpr c64
              have c64b1 : ((Int.tmod (IntKind.u64.wrap (a0)) 20) != 3) = true := bne_iff_ne.mpr c64
              by_cases c83 : (Int.tmod (IntKind.u64.wrap (a0)) 20) = 4
              · exact (forms_hi HPART.out c83 (by decide)).elim
              · rw [if_neg c83] at H
                have c83b0 : ((Int.tmod (IntKind.u64.wrap (a0)) 20) == 4) = false := beq_eq_false_iff_ne.mpr c83
                have c83b1 : ((Int.tmod (IntKind.u64.wrap (a0)) 20) != 4) = true := bne_iff_ne.mpr c83
                by_cases c102 : (Int.tmod (IntKind.u64.wrap (a0)) 20) = 5
                · exact (forms_hi HPART.out c102 (by decide)).elim
                · rw [if_neg c102] at H
                  have c102b0 : ((Int.tmod (IntKind.u64.wrap (a0)) 20) == 5) = false := beq_eq_false_iff_ne.mpr c102
                  have c102b1 : ((Int.tmod (IntKind.u64.wrap (a0)) 20) != 5) = true := bne_iff_ne.mpr c102
                  by_cases c121 : (Int.tmod (IntKind.u64.wrap (a0)) 20) = 6
                  · exact (forms_hi HPART.out c121 (by decide)).elim
                  · rw [if_neg c121] at H
                    have c121b0 : ((Int.tmod (IntKind.u64.wrap (a0)) 20) == 6) = false := beq_eq_false_iff_ne.mpr c121
                    have c121b1 : ((Int.tmod (IntKind.u64.wrap (a0)) 20) != 6) = true := bne_iff_ne.mpr c121
                    by_cases c140 : (Int.tmod (IntKind.u64.wrap (a0)) 20) = 7
                    · exact (forms_hi HPART.out c140 (by decide)).elim
                    · rw [if_neg c140] at H
                      have c140b0 : ((Int.tmod (IntKind.u64.wrap (a0)) 20) == 7) = false := beq_eq_false_iff_ne.mpr c140
                      have c140b1 : ((Int.tmod (IntKind.u64.wrap (a0)) 20) != 7) = true := bne_iff_ne.mpr c140
                      by_cases c159 : (Int.tmod (IntKind.u64.wrap (a0)) 20) = 8
                      · exact (forms_hi HPART.out c159 (by decide)).elim
                      · rw [if_neg c159] at H
                        have c159b0 : ((Int.tmod (IntKind.u64.wrap (a0)) 20) == 8) = false := beq_eq_false_iff_ne.mpr c159
                        have c159b1 : ((Int.tmod (IntKind.u64.wrap (a0)) 20) != 8) = true := bne_iff_ne.mpr c159
                        by_cases c178 : (Int.tmod (IntKind.u64.wrap (a0)) 20) = 9
                        · exact (forms_hi HPART.out c178 (by decide)).elim
                        · rw [if_neg c178] at H
                          have c178b0 : ((Int.tmod (IntKind.u64.wrap (a0)) 20) == 9) = false := beq_eq_false_iff_ne.mpr c178
                          have c178b1 : ((Int.tmod (IntKind.u64.wrap (a0)) 20) != 9) = true := bne_iff_ne.mpr c178
                          by_cases c197 : (Int.tmod (IntKind.u64.wrap (a0)) 20) = 10
                          · rw [if_pos c197] at H
                            have c197b0 : ((Int.tmod (IntKind.u64.wrap (a0)) 20) == 10) = true := beq_iff_eq.mpr c197
                            have c197b1 : ((Int.tmod (IntKind.u64.wrap (a0)) 20) != 10) = false := bne_eq_false_iff_eq.mpr c197
                            clear c197
                            by_cases c198 : 3 < (y357.length : Int)
                            · rw [if_pos c198] at H
                              have c198b0 : decide (3 < (y357.length : Int)) = true := decide_eq_true c198
                              have c198b1 : decide (3 < y357.length) = true := decide_eq_true (by omega)
                              clear c198
                              obtain ⟨y382, hy382⟩ : ∃ y_ : List (S45), y_ = (y357.set (3 : Int).toNat (⟨(rd_T45 y357 3).f0, wrap64 ((wrap64 (1 + (Go.bits .and .i64 a1 1023))) + 2), (rd_T45 y357 3).f2, (rd_T45 y357 3).f3, (rd_T45 y357 3).f4, (rd_T45 y357 3).f5, (rd_T45 y357 3).f6, (rd_T45 y357 3).f7, (rd_T45 y357 3).f8, (rd_T45 y357 3).f9⟩ : S45)) := ⟨_, rfl⟩
                              first | rw [Option.bind_some, ← hy382] at H | rw [← hy382] at H
                              (try dsimp only at H)
                              have Ny382 := Aside0.mk hy382
                              clear hy382
                              replace H := Option.bind_eq_some_iff.mp H
                              obtain ⟨t383, A2000, H⟩ := H
                              (try dsimp only at H)
                              have A200 := Aside0.mk A2000
                              clear A2000
                              obtain rfl := Option.some.inj H
                              have hcz211_0 : w20.cell? ⟨gb360, 0, none⟩ = some (.slice Ao17 y354.length co17) := (blk_cell BK360.out 0).trans rfl
                              have hcz211_1 : w20.cell? ⟨gb360, 1, none⟩ = some (.slice Ao16 y357.length co16) := (blk_cell BK360.out 1).trans rfl
                              have hfz211_0 := blk_frozen BK360.out 0
                              have hfz211_1 := blk_frozen BK360.out 1
                              have p199 : 0 ≤ (3 : Int) := (by omega)
                              have q199 : (3 : Int) < ((y357.length : Int) : Int) := of_decide_eq_true (by first | (with_reducible assumption) | assumption)
                              have qi199 : (3 < y357.length) = True := eq_true (by omega)
                              obtain ⟨go199, co199, eo199, gb199, gl199, cl199, HG199⟩ := Kd.R_form HO359.out (by omega)
                              (first | cases eo199 | (injection eo199 with ea_ en_ ec_; (first | subst ea_ | (injection ea_ with ea_; subst ea_)); subst ec_; clear en_))
                              have GB199 := Aside0.mk gb199
                              have GG199 := Aside0.mk HG199
                              clear gb199 gl199 HG199
                              obtain ⟨ce199, hcl199, hM199, hcc199, hfr199⟩ := Kd.R_elem HO359.out z45 (3 : Int) p199 q199
                              obtain rfl := k45_openM hM199
                              have hx199_0 : w20.cell? ⟨go199, (3 : Int).toNat * 10, none⟩ = some (.int .i64 ((rd_T45 y357 3).f0)) := hcc199 0 _ rfl
                              have hx199_1 : w20.cell? ⟨go199, (3 : Int).toNat * 10 + 1, none⟩ = some (.int .i64 ((rd_T45 y357 3).f1)) := hcc199 1 _ rfl
                              have hx199_2 : w20.cell? ⟨go199, (3 : Int).toNat * 10 + 2, none⟩ = some (.int .i64 ((rd_T45 y357 3).f2)) := hcc199 2 _ rfl
                              have hx199_3 : w20.cell? ⟨go199, (3 : Int).toNat * 10 + 3, none⟩ = some (.int .i64 ((rd_T45 y357 3).f3)) := hcc199 3 _ rfl
                              have hx199_4 : w20.cell? ⟨go199, (3 : Int).toNat * 10 + 4, none⟩ = some (.int .i64 ((rd_T45 y357 3).f4)) := hcc199 4 _ rfl
                              have hx199_5 : w20.cell? ⟨go199, (3 : Int).toNat * 10 + 5, none⟩ = some (.string ((rd_T45 y357 3).f5)) := hcc199 5 _ rfl
                              have hx199_6 : w20.cell? ⟨go199, (3 : Int).toNat * 10 + 6, none⟩ = some (.string ((rd_T45 y357 3).f6)) := hcc199 6 _ rfl
                              have hx199_7 : w20.cell? ⟨go199, (3 : Int).toNat * 10 + 7, none⟩ = some (.string ((rd_T45 y357 3).f7)) := hcc199 7 _ rfl
                              have hx199_8 : w20.cell? ⟨go199, (3 : Int).toNat * 10 + 8, none⟩ = some (.string ((rd_T45 y357 3).f8)) := hcc199 8 _ rfl
                              have hx199_9 : w20.cell? ⟨go199, (3 : Int).toNat * 10 + 9, none⟩ = some (.int .i64 ((rd_T45 y357 3).f9)) := hcc199 9 _ rfl
                              have hf199_0 : w20.frozen? ⟨go199, (3 : Int).toNat * 10, none⟩ = false := hfr199 0
                              have hf199_1 : w20.frozen? ⟨go199, (3 : Int).toNat * 10 + 1, none⟩ = false := hfr199 1
                              have hf199_2 : w20.frozen? ⟨go199, (3 : Int).toNat * 10 + 2, none⟩ = false := hfr199 2
                              have hf199_3 : w20.frozen? ⟨go199, (3 : Int).toNat * 10 + 3, none⟩ = false := hfr199 3
                              have hf199_4 : w20.frozen? ⟨go199, (3 : Int).toNat * 10 + 4, none⟩ = false := hfr199 4
                              have hf199_5 : w20.frozen? ⟨go199, (3 : Int).toNat * 10 + 5, none⟩ = false := hfr199 5
                              have hf199_6 : w20.frozen? ⟨go199, (3 : Int).toNat * 10 + 6, none⟩ = false := hfr199 6
                              have hf199_7 : w20.frozen? ⟨go199, (3 : Int).toNat * 10 + 7, none⟩ = false := hfr199 7
                              have hf199_8 : w20.frozen? ⟨go199, (3 : Int).toNat * 10 + 8, none⟩ = false := hfr199 8
                              have hf199_9 : w20.frozen? ⟨go199, (3 : Int).toNat * 10 + 9, none⟩ = false := hfr199 9
                              clear hcl199 hcc199 hfr199 hM199
                              (try rw [show ((3 : Int)).toNat = 3 from rfl] at hx199_0)
                              (try simp only [Nat.reduceMul, Nat.zero_mul, Nat.zero_add, Nat.reduceAdd] at hx199_0)
                              (try rw [show ((3 : Int)).toNat = 3 from rfl] at hf199_0)
                              (try simp only [Nat.reduceMul, Nat.zero_mul, Nat.zero_add, Nat.reduceAdd] at hf199_0)
                              (try rw [show ((3 : Int)).toNat = 3 from rfl] at hx199_1)
                              (try simp only [Nat.reduceMul, Nat.zero_mul, Nat.zero_add, Nat.reduceAdd] at hx199_1)
                              (try rw [show ((3 : Int)).toNat = 3 from rfl] at hf199_1)
                              (try simp only [Nat.reduceMul, Nat.zero_mul, Nat.zero_add, Nat.reduceAdd] at hf199_1)
                              (try rw [show ((3 : Int)).toNat = 3 from rfl] at hx199_2)
                              (try simp only [Nat.reduceMul, Nat.zero_mul, Nat.zero_add, Nat.reduceAdd] at hx199_2)
                              (try rw [show ((3 : Int)).toNat = 3 from rfl] at hf199_2)
                              (try simp only [Nat.reduceMul, Nat.zero_mul, Nat.zero_add, Nat.reduceAdd] at hf199_2)
                              (try rw [show ((3 : Int)).toNat = 3 from rfl] at hx199_3)
                              (try simp only [Nat.reduceMul, Nat.zero_mul, Nat.zero_add, Nat.reduceAdd] at hx199_3)
                              (try rw [show ((3 : Int)).toNat = 3 from rfl] at hf199_3)
                              (try simp only [Nat.reduceMul, Nat.zero_mul, Nat.zero_add, Nat.reduceAdd] at hf199_3)
                              (try rw [show ((3 : Int)).toNat = 3 from rfl] at hx199_4)
                              (try simp only [Nat.reduceMul, Nat.zero_mul, Nat.zero_add, Nat.reduceAdd] at hx199_4)
                              (try rw [show ((3 : Int)).toNat = 3 from rfl] at hf199_4)
                              (try simp only [Nat.reduceMul, Nat.zero_mul, Nat.zero_add, Nat.reduceAdd] at hf199_4)
                              (try rw [show ((3 : Int)).toNat = 3 from rfl] at hx199_5)
                              (try simp only [Nat.reduceMul, Nat.zero_mul, Nat.zero_add, Nat.reduceAdd] at hx199_5)
                              (try rw [show ((3 : Int)).toNat = 3 from rfl] at hf199_5)
                              (try simp only [Nat.reduceMul, Nat.zero_mul, Nat.zero_add, Nat.reduceAdd] at hf199_5)
                              (try rw [show ((3 : Int)).toNat = 3 from rfl] at hx199_6)
                              (try simp only [Nat.reduceMul, Nat.zero_mul, Nat.zero_add, Nat.reduceAdd] at hx199_6)
                              (try rw [show ((3 : Int)).toNat = 3 from rfl] at hf199_6)
                              (try simp only [Nat.reduceMul, Nat.zero_mul, Nat.zero_add, Nat.reduceAdd] at hf199_6)
                              (try rw [show ((3 : Int)).toNat = 3 from rfl] at hx199_7)
                              (try simp only [Nat.reduceMul, Nat.zero_mul, Nat.zero_add, Nat.reduceAdd] at hx199_7)
                              (try rw [show ((3 : Int)).toNat = 3 from rfl] at hf199_7)
                              (try simp only [Nat.reduceMul, Nat.zero_mul, Nat.zero_add, Nat.reduceAdd] at hf199_7)
                              (try rw [show ((3 : Int)).toNat = 3 from rfl] at hx199_8)
                              (try simp only [Nat.reduceMul, Nat.zero_mul, Nat.zero_add, Nat.reduceAdd] at hx199_8)
                              (try rw [show ((3 : Int)).toNat = 3 from rfl] at hf199_8)
                              (try simp only [Nat.reduceMul, Nat.zero_mul, Nat.zero_add, Nat.reduceAdd] at hf199_8)
                              (try rw [show ((3 : Int)).toNat = 3 from rfl] at hx199_9)
                              (try simp only [Nat.reduceMul, Nat.zero_mul, Nat.zero_add, Nat.reduceAdd] at hx199_9)
                              (try rw [show ((3 : Int)).toNat = 3 from rfl] at hf199_9)
                              (try simp only [Nat.reduceMul, Nat.zero_mul, Nat.zero_add, Nat.reduceAdd] at hf199_9)
                              replace p199 := eq_true p199
                              replace q199 := eq_true q199
                              have HX212 := Aside0.mk (show Kd.R k45 45 w20 w.heap.size (fun _ => True) (.slice (some ⟨go199, 0, none⟩) y357.length co16) y357 from (by (with_reducible repeat (first | apply Kd.R_alloc | apply Kd.R_drewN | apply Kd.R_drew)); exact HO359.out))
                              obtain ⟨ce212, hcl212, hM212, hcc212, hfr212⟩ := Kd.R_elem HX212.out z45 (3 : Int) (by omega) (by have h_ : (3 : Int) < ((y357.length : Int) : Int) := of_decide_eq_true (by first | (with_reducible assumption) | assumption); first | exact h_ | (have e_ := (Kd.R_reads' HO359.out).1; omega) | simpa using h_)
                              obtain rfl := k45_openM hM212
                              have HP212 := Kd.R_seg HX212.out (3 : Int) (by omega) (by have h_ : (3 : Int) < ((y357.length : Int) : Int) := of_decide_eq_true (by first | (with_reducible assumption) | assumption); first | exact h_ | (have e_ := (Kd.R_reads' HO359.out).1; omega) | simpa using h_) (seg := [.int .i64 (wrap64 ((wrap64 (1 + (Go.bits .and .i64 a1 1023))) + 2))]) (j := 1) hcl212 hcc212 (show 2 ≤ 10 from by decide) (x' := (⟨(rd_T45 y357 3).f0, wrap64 ((wrap64 (1 + (Go.bits .and .i64 a1 1023))) + 2), (rd_T45 y357 3).f2, (rd_T45 y357 3).f3, (rd_T45 y357 3).f4, (rd_T45 y357 3).f5, (rd_T45 y357 3).f6, (rd_T45 y357 3).f7, (rd_T45 y357 3).f8, (rd_T45 y357 3).f9⟩ : S45)) (k45_mkM _ _ _ (⟨(rd_T45 y357 3).f0, wrap64 ((wrap64 (1 + (Go.bits .and .i64 a1 1023))) + 2), (rd_T45 y357 3).f2, (rd_T45 y357 3).f3, (rd_T45 y357 3).f4, (rd_T45 y357 3).f5, (rd_T45 y357 3).f6, (rd_T45 y357 3).f7, (rd_T45 y357 3).f8, (rd_T45 y357 3).f9⟩ : S45) ) (fun _ hk => hk)
                              have hx212_1 := hcc212 1 _ rfl
                              (try simp only [show (k45).sz = 10 from rfl, Nat.mul_one, Nat.add_zero] at hx212_1)
                              (try rw [show ((3 : Int)).toNat = 3 from rfl] at hx212_1)
                              (try simp only [Nat.reduceMul, Nat.zero_mul, Nat.zero_add, Nat.reduceAdd] at hx212_1)
                              have hf212_1 := hfr212 1
                              (try simp only [show (k45).sz = 10 from rfl, Nat.mul_one, Nat.add_zero] at hf212_1)
                              (try rw [show ((3 : Int)).toNat = 3 from rfl] at hf212_1)
                              (try simp only [Nat.reduceMul, Nat.zero_mul, Nat.zero_add, Nat.reduceAdd] at hf212_1)
                              clear hcl212 hcc212 hfr212 hM212
                              go_wp2_with (first | ((with_reducible refine gate_store (t := 3) (p := 109) rfl ?_); refine store_event (t := 3) (p := 109) (v := ?vo_w213) (w1 := (w20.setCell ⟨go199, 31, none⟩ (.int .i64 (wrap64 ((wrap64 (1 + (Go.bits .and .i64 a1 1023))) + 2))))) ?hg ?ho ?hn ?hr ?_; (case ho => rfl); (case hg => rfl); (case hn => rfl); (case hr => first | (go_simp; done) | (go_simp; rfl)); intro w213 hw; have hg : w20.grownBy w213 (some go199) := (by rw [hw]; exact HP212.2); have hp_ : Kd.R k45 45 w213 w.heap.size (fun _ => True) (.slice (some ⟨go199, 0, none⟩) y357.length co16) y382 := (by rw [hw, Ny382.out]; exact HP212.1); clear HP212; have n0_ := Aside0.mk (Kd.R_over' (v := (.slice (some ⟨go199, 0, none⟩) y357.length co16)) (by (with_reducible repeat (first | apply Kd.R_alloc | apply Kd.R_drewN | apply Kd.R_drew)); exact HO356.out) (Kd.R_typed HO359.out) (by decide) hg); have n1_ := Aside0.mk (hp_); have n2_ := Aside0.mk (blk_grown (g := gb360) (o := .cells #[.slice Ao17 y354.length co17, .slice (some ⟨go199, 0, none⟩) y357.length co16] 25 (0, 0)) (by (with_reducible repeat (first | refine blk_drewN ?_ _ | refine blk_drew ?_ | refine blk_alloc ?_ _)); exact BK360.out) hg (Kd.R_ne HO359.out BK360.out (by decide))); have n3_ := Aside0.mk ((by rw [hw]; exact below_set (HB.out) GB199.out : Below w.heap.size w w213)); clear HO356; clear HO359; clear BK360; clear HB; have HO356 := n0_; have HO359 := n1_; have BK360 := n2_; have HB := n3_; clear n0_ n1_ n2_ n3_; clear hg hw hp_; have hcz214_0 : w213.cell? ⟨gb360, 0, none⟩ = some (.slice Ao17 y354.length co17) := (blk_cell BK360.out 0).trans rfl; have hcz214_1 : w213.cell? ⟨gb360, 1, none⟩ = some (.slice (some ⟨go199, 0, none⟩) y357.length co16) := (blk_cell BK360.out 1).trans rfl; have hfz214_0 := blk_frozen BK360.out 0; have hfz214_1 := blk_frozen BK360.out 1) | ((with_reducible refine gate_callee (f := 20) rfl ?_); refine goesL_ (some 165) rfl rfl Tryd.func20 (by kernel_rfl) rfl #[.agg #[.slice Ao17 y354.length co17, .slice (some ⟨go199, 0, none⟩) y382.length co16]] rfl (by (try simp only [List.map_toArray, List.map_cons, List.map_nil]); first | done | (rw [show y382.length = y357.length from (Kd.R_reads' HO359.out).1.symm] <;> rfl) | rfl | (simp only [List.length_drop, List.length_take]; rfl)) ?_; (with_reducible refine (tree_May.calls k _ _ y354 _ _ y382 t383 _ ?side1 ?side2 ?side3 ?side4 A200.out).mono ?_); (case side1 => repeat (first | (with_reducible refine Kd.C_alloc ?_ _) | (with_reducible refine Kd.C_drewN ?_ _) | (with_reducible refine Kd.C_drew ?_) | exact (Kd.R_reads' HO356.out).2.2)); (case side2 => exact (Kd.R_reads' HO356.out).2.1); (case side3 => repeat (first | (with_reducible refine Kd.C_alloc ?_ _) | (with_reducible refine Kd.C_drewN ?_ _) | (with_reducible refine Kd.C_drew ?_) | exact (Kd.R_reads' HO359.out).2.2)); (case side4 => rw [show y382.length = y357.length from (Kd.R_reads' HO359.out).1.symm]; exact (Kd.R_reads' HO359.out).2.1); rintro e w215 ⟨rfl, hb⟩; refine ⟨_, rfl, ?_⟩; have n0_ := Aside0.mk (Kd.R_below (by (with_reducible repeat (first | apply Kd.R_alloc | apply Kd.R_drewN | apply Kd.R_drew)); exact HO356.out) hb); have n1_ := Aside0.mk (Kd.R_below (by (with_reducible repeat (first | apply Kd.R_alloc | apply Kd.R_drewN | apply Kd.R_drew)); exact HO359.out) hb); have n2_ := Aside0.mk (blk_below (g := gb360) (o := .cells #[.slice Ao17 y354.length co17, .slice (some ⟨go199, 0, none⟩) y357.length co16] 25 (0, 0)) (by (with_reducible repeat (first | refine blk_drewN ?_ _ | refine blk_drew ?_ | refine blk_alloc ?_ _)); exact BK360.out) hb); have n3_ := Aside0.mk (below_step (by repeat (first | (with_reducible first | exact HB.out | apply below_alloc | apply pw_below_drewN | apply below_drew1 | refine below_set ?_ GE360.out) | exact HB.out)) hb); clear HO356; clear HO359; clear BK360; clear HB; have HO356 := n0_; have HO359 := n1_; have BK360 := n2_; have HB := n3_; clear n0_ n1_ n2_ n3_; (try clear hb); (try clear hb2); (try clear hk); (try clear hi)))
                              go_ret
                              exact ⟨by first | rfl | (simp [errW_none, errW_some] <;> rfl) | (simp [*, errW_none, errW_some] <;> rfl), by repeat (first | (with_reducible first | exact HB.out | apply below_alloc | apply pw_below_drewN | apply below_drew1 | refine below_set ?_ GE360.out) | exact HB.out)⟩
                            · rw [if_neg c198] at H
                              exact absurd H (by simp)
                          · rw [if_neg c197] at H
                            have c197b0 : ((Int.tmod (IntKind.u64.wrap (a0)) 20) == 10) = false := beq_eq_false_iff_ne.mpr c197
                            have c197b1 : ((Int.tmod (IntKind.u64.wrap (a0)) 20) != 10) = true := bne_iff_ne.mpr c197
                            by_cases c216 : (Int.tmod (IntKind.u64.wrap (a0)) 20) = 11
                            · rw [if_pos c216] at H
                              have c216b0 : ((Int.tmod (IntKind.u64.wrap (a0)) 20) == 11) = true := beq_iff_eq.mpr c216
                              have c216b1 : ((Int.tmod (IntKind.u64.wrap (a0)) 20) != 11) = false := bne_eq_false_iff_eq.mpr c216
                              clear c216
                              by_cases c217 : 3 < (y357.length : Int)
                              · rw [if_pos c217] at H
                                have c217b0 : decide (3 < (y357.length : Int)) = true := decide_eq_true c217
                                have c217b1 : decide (3 < y357.length) = true := decide_eq_true (by omega)
                                clear c217
                                obtain ⟨y384, hy384⟩ : ∃ y_ : List (S45), y_ = (y357.set (3 : Int).toNat (⟨(rd_T45 y357 3).f0, (rd_T45 y357 3).f1, (rd_T45 y357 3).f2, (rd_T45 y357 3).f3, (rd_T45 y357 3).f4, (rd_T45 y357 3).f5, (⟨#[88]⟩ : ByteArray), (rd_T45 y357 3).f7, (rd_T45 y357 3).f8, (rd_T45 y357 3).f9⟩ : S45)) := ⟨_, rfl⟩
                                first | rw [Option.bind_some, ← hy384] at H | rw [← hy384] at H
                                (try dsimp only at H)
                                have Ny384 := Aside0.mk hy384
                                clear hy384
                                replace H := Option.bind_eq_some_iff.mp H
                                obtain ⟨t385, A2190, H⟩ := H
                                (try dsimp only at H)
                                have A219 := Aside0.mk A2190
                                clear A2190
                                obtain rfl := Option.some.inj H
                                have hcz230_0 : w20.cell? ⟨gb360, 0, none⟩ = some (.slice Ao17 y354.length co17) := (blk_cell BK360.out 0).trans rfl
                                have hcz230_1 : w20.cell? ⟨gb360, 1, none⟩ = some (.slice Ao16 y357.length co16) := (blk_cell BK360.out 1).trans rfl
                                have hfz230_0 := blk_frozen BK360.out 0
                                have hfz230_1 := blk_frozen BK360.out 1
                                have p218 : 0 ≤ (3 : Int) := (by omega)
                                have q218 : (3 : Int) < ((y357.length : Int) : Int) := of_decide_eq_true (by first | (with_reducible assumption) | assumption)
                                have qi218 : (3 < y357.length) = True := eq_true (by omega)
                                obtain ⟨go218, co218, eo218, gb218, gl218, cl218, HG218⟩ := Kd.R_form HO359.out (by omega)
                                (first | cases eo218 | (injection eo218 with ea_ en_ ec_; (first | subst ea_ | (injection ea_ with ea_; subst ea_)); subst ec_; clear en_))
                                have GB218 := Aside0.mk gb218
                                have GG218 := Aside0.mk HG218
                                clear gb218 gl218 HG218
                                obtain ⟨ce218, hcl218, hM218, hcc218, hfr218⟩ := Kd.R_elem HO359.out z45 (3 : Int) p218 q218
                                obtain rfl := k45_openM hM218
                                have hx218_0 : w20.cell? ⟨go218, (3 : Int).toNat * 10, none⟩ = some (.int .i64 ((rd_T45 y357 3).f0)) := hcc218 0 _ rfl
                                have hx218_1 : w20.cell? ⟨go218, (3 : Int).toNat * 10 + 1, none⟩ = some (.int .i64 ((rd_T45 y357 3).f1)) := hcc218 1 _ rfl
                                have hx218_2 : w20.cell? ⟨go218, (3 : Int).toNat * 10 + 2, none⟩ = some (.int .i64 ((rd_T45 y357 3).f2)) := hcc218 2 _ rfl
                                have hx218_3 : w20.cell? ⟨go218, (3 : Int).toNat * 10 + 3, none⟩ = some (.int .i64 ((rd_T45 y357 3).f3)) := hcc218 3 _ rfl
                                have hx218_4 : w20.cell? ⟨go218, (3 : Int).toNat * 10 + 4, none⟩ = some (.int .i64 ((rd_T45 y357 3).f4)) := hcc218 4 _ rfl
                                have hx218_5 : w20.cell? ⟨go218, (3 : Int).toNat * 10 + 5, none⟩ = some (.string ((rd_T45 y357 3).f5)) := hcc218 5 _ rfl
                                have hx218_6 : w20.cell? ⟨go218, (3 : Int).toNat * 10 + 6, none⟩ = some (.string ((rd_T45 y357 3).f6)) := hcc218 6 _ rfl
                                have hx218_7 : w20.cell? ⟨go218, (3 : Int).toNat * 10 + 7, none⟩ = some (.string ((rd_T45 y357 3).f7)) := hcc218 7 _ rfl
                                have hx218_8 : w20.cell? ⟨go218, (3 : Int).toNat * 10 + 8, none⟩ = some (.string ((rd_T45 y357 3).f8)) := hcc218 8 _ rfl
                                have hx218_9 : w20.cell? ⟨go218, (3 : Int).toNat * 10 + 9, none⟩ = some (.int .i64 ((rd_T45 y357 3).f9)) := hcc218 9 _ rfl
                                have hf218_0 : w20.frozen? ⟨go218, (3 : Int).toNat * 10, none⟩ = false := hfr218 0
                                have hf218_1 : w20.frozen? ⟨go218, (3 : Int).toNat * 10 + 1, none⟩ = false := hfr218 1
                                have hf218_2 : w20.frozen? ⟨go218, (3 : Int).toNat * 10 + 2, none⟩ = false := hfr218 2
                                have hf218_3 : w20.frozen? ⟨go218, (3 : Int).toNat * 10 + 3, none⟩ = false := hfr218 3
                                have hf218_4 : w20.frozen? ⟨go218, (3 : Int).toNat * 10 + 4, none⟩ = false := hfr218 4
                                have hf218_5 : w20.frozen? ⟨go218, (3 : Int).toNat * 10 + 5, none⟩ = false := hfr218 5
                                have hf218_6 : w20.frozen? ⟨go218, (3 : Int).toNat * 10 + 6, none⟩ = false := hfr218 6
                                have hf218_7 : w20.frozen? ⟨go218, (3 : Int).toNat * 10 + 7, none⟩ = false := hfr218 7
                                have hf218_8 : w20.frozen? ⟨go218, (3 : Int).toNat * 10 + 8, none⟩ = false := hfr218 8
                                have hf218_9 : w20.frozen? ⟨go218, (3 : Int).toNat * 10 + 9, none⟩ = false := hfr218 9
                                clear hcl218 hcc218 hfr218 hM218
                                (try rw [show ((3 : Int)).toNat = 3 from rfl] at hx218_0)
                                (try simp only [Nat.reduceMul, Nat.zero_mul, Nat.zero_add, Nat.reduceAdd] at hx218_0)
                                (try rw [show ((3 : Int)).toNat = 3 from rfl] at hf218_0)
                                (try simp only [Nat.reduceMul, Nat.zero_mul, Nat.zero_add, Nat.reduceAdd] at hf218_0)
                                (try rw [show ((3 : Int)).toNat = 3 from rfl] at hx218_1)
                                (try simp only [Nat.reduceMul, Nat.zero_mul, Nat.zero_add, Nat.reduceAdd] at hx218_1)
                                (try rw [show ((3 : Int)).toNat = 3 from rfl] at hf218_1)
                                (try simp only [Nat.reduceMul, Nat.zero_mul, Nat.zero_add, Nat.reduceAdd] at hf218_1)
                                (try rw [show ((3 : Int)).toNat = 3 from rfl] at hx218_2)
                                (try simp only [Nat.reduceMul, Nat.zero_mul, Nat.zero_add, Nat.reduceAdd] at hx218_2)
                                (try rw [show ((3 : Int)).toNat = 3 from rfl] at hf218_2)
                                (try simp only [Nat.reduceMul, Nat.zero_mul, Nat.zero_add, Nat.reduceAdd] at hf218_2)
                                (try rw [show ((3 : Int)).toNat = 3 from rfl] at hx218_3)
                                (try simp only [Nat.reduceMul, Nat.zero_mul, Nat.zero_add, Nat.reduceAdd] at hx218_3)
                                (try rw [show ((3 : Int)).toNat = 3 from rfl] at hf218_3)
                                (try simp only [Nat.reduceMul, Nat.zero_mul, Nat.zero_add, Nat.reduceAdd] at hf218_3)
                                (try rw [show ((3 : Int)).toNat = 3 from rfl] at hx218_4)
                                (try simp only [Nat.reduceMul, Nat.zero_mul, Nat.zero_add, Nat.reduceAdd] at hx218_4)
                                (try rw [show ((3 : Int)).toNat = 3 from rfl] at hf218_4)
                                (try simp only [Nat.reduceMul, Nat.zero_mul, Nat.zero_add, Nat.reduceAdd] at hf218_4)
                                (try rw [show ((3 : Int)).toNat = 3 from rfl] at hx218_5)
                                (try simp only [Nat.reduceMul, Nat.zero_mul, Nat.zero_add, Nat.reduceAdd] at hx218_5)
                                (try rw [show ((3 : Int)).toNat = 3 from rfl] at hf218_5)
                                (try simp only [Nat.reduceMul, Nat.zero_mul, Nat.zero_add, Nat.reduceAdd] at hf218_5)
                                (try rw [show ((3 : Int)).toNat = 3 from rfl] at hx218_6)
                                (try simp only [Nat.reduceMul, Nat.zero_mul, Nat.zero_add, Nat.reduceAdd] at hx218_6)
                                (try rw [show ((3 : Int)).toNat = 3 from rfl] at hf218_6)
                                (try simp only [Nat.reduceMul, Nat.zero_mul, Nat.zero_add, Nat.reduceAdd] at hf218_6)
                                (try rw [show ((3 : Int)).toNat = 3 from rfl] at hx218_7)
                                (try simp only [Nat.reduceMul, Nat.zero_mul, Nat.zero_add, Nat.reduceAdd] at hx218_7)
                                (try rw [show ((3 : Int)).toNat = 3 from rfl] at hf218_7)
                                (try simp only [Nat.reduceMul, Nat.zero_mul, Nat.zero_add, Nat.reduceAdd] at hf218_7)
                                (try rw [show ((3 : Int)).toNat = 3 from rfl] at hx218_8)
                                (try simp only [Nat.reduceMul, Nat.zero_mul, Nat.zero_add, Nat.reduceAdd] at hx218_8)
                                (try rw [show ((3 : Int)).toNat = 3 from rfl] at hf218_8)
                                (try simp only [Nat.reduceMul, Nat.zero_mul, Nat.zero_add, Nat.reduceAdd] at hf218_8)
                                (try rw [show ((3 : Int)).toNat = 3 from rfl] at hx218_9)
                                (try simp only [Nat.reduceMul, Nat.zero_mul, Nat.zero_add, Nat.reduceAdd] at hx218_9)
                                (try rw [show ((3 : Int)).toNat = 3 from rfl] at hf218_9)
                                (try simp only [Nat.reduceMul, Nat.zero_mul, Nat.zero_add, Nat.reduceAdd] at hf218_9)
                                replace p218 := eq_true p218
                                replace q218 := eq_true q218
                                have HX231 := Aside0.mk (show Kd.R k45 45 w20 w.heap.size (fun _ => True) (.slice (some ⟨go218, 0, none⟩) y357.length co16) y357 from (by (with_reducible repeat (first | apply Kd.R_alloc | apply Kd.R_drewN | apply Kd.R_drew)); exact HO359.out))
                                obtain ⟨ce231, hcl231, hM231, hcc231, hfr231⟩ := Kd.R_elem HX231.out z45 (3 : Int) (by omega) (by have h_ : (3 : Int) < ((y357.length : Int) : Int) := of_decide_eq_true (by first | (with_reducible assumption) | assumption); first | exact h_ | (have e_ := (Kd.R_reads' HO359.out).1; omega) | simpa using h_)
                                obtain rfl := k45_openM hM231
                                have HP231 := Kd.R_seg HX231.out (3 : Int) (by omega) (by have h_ : (3 : Int) < ((y357.length : Int) : Int) := of_decide_eq_true (by first | (with_reducible assumption) | assumption); first | exact h_ | (have e_ := (Kd.R_reads' HO359.out).1; omega) | simpa using h_) (seg := [.string (⟨#[88]⟩ : ByteArray)]) (j := 6) hcl231 hcc231 (show 7 ≤ 10 from by decide) (x' := (⟨(rd_T45 y357 3).f0, (rd_T45 y357 3).f1, (rd_T45 y357 3).f2, (rd_T45 y357 3).f3, (rd_T45 y357 3).f4, (rd_T45 y357 3).f5, (⟨#[88]⟩ : ByteArray), (rd_T45 y357 3).f7, (rd_T45 y357 3).f8, (rd_T45 y357 3).f9⟩ : S45)) (k45_mkM _ _ _ (⟨(rd_T45 y357 3).f0, (rd_T45 y357 3).f1, (rd_T45 y357 3).f2, (rd_T45 y357 3).f3, (rd_T45 y357 3).f4, (rd_T45 y357 3).f5, (⟨#[88]⟩ : ByteArray), (rd_T45 y357 3).f7, (rd_T45 y357 3).f8, (rd_T45 y357 3).f9⟩ : S45) ) (fun _ hk => hk)
                                have hx231_6 := hcc231 6 _ rfl
                                (try simp only [show (k45).sz = 10 from rfl, Nat.mul_one, Nat.add_zero] at hx231_6)
                                (try rw [show ((3 : Int)).toNat = 3 from rfl] at hx231_6)
                                (try simp only [Nat.reduceMul, Nat.zero_mul, Nat.zero_add, Nat.reduceAdd] at hx231_6)
                                have hf231_6 := hfr231 6
                                (try simp only [show (k45).sz = 10 from rfl, Nat.mul_one, Nat.add_zero] at hf231_6)
                                (try rw [show ((3 : Int)).toNat = 3 from rfl] at hf231_6)
                                (try simp only [Nat.reduceMul, Nat.zero_mul, Nat.zero_add, Nat.reduceAdd] at hf231_6)
                                clear hcl231 hcc231 hfr231 hM231
                                go_wp2_with (first | ((with_reducible refine gate_store (t := 9) (p := 115) rfl ?_); refine store_event (t := 9) (p := 115) (v := ?vo_w232) (w1 := (w20.setCell ⟨go218, 36, none⟩ (.string (⟨#[88]⟩ : ByteArray)))) ?hg ?ho ?hn ?hr ?_; (case ho => rfl); (case hg => rfl); (case hn => rfl); (case hr => first | (go_simp; done) | (go_simp; rfl)); intro w232 hw; have hg : w20.grownBy w232 (some go218) := (by rw [hw]; exact HP231.2); have hp_ : Kd.R k45 45 w232 w.heap.size (fun _ => True) (.slice (some ⟨go218, 0, none⟩) y357.length co16) y384 := (by rw [hw, Ny384.out]; exact HP231.1); clear HP231; have n0_ := Aside0.mk (Kd.R_over' (v := (.slice (some ⟨go218, 0, none⟩) y357.length co16)) (by (with_reducible repeat (first | apply Kd.R_alloc | apply Kd.R_drewN | apply Kd.R_drew)); exact HO356.out) (Kd.R_typed HO359.out) (by decide) hg); have n1_ := Aside0.mk (hp_); have n2_ := Aside0.mk (blk_grown (g := gb360) (o := .cells #[.slice Ao17 y354.length co17, .slice (some ⟨go218, 0, none⟩) y357.length co16] 25 (0, 0)) (by (with_reducible repeat (first | refine blk_drewN ?_ _ | refine blk_drew ?_ | refine blk_alloc ?_ _)); exact BK360.out) hg (Kd.R_ne HO359.out BK360.out (by decide))); have n3_ := Aside0.mk ((by rw [hw]; exact below_set (HB.out) GB218.out : Below w.heap.size w w232)); clear HO356; clear HO359; clear BK360; clear HB; have HO356 := n0_; have HO359 := n1_; have BK360 := n2_; have HB := n3_; clear n0_ n1_ n2_ n3_; clear hg hw hp_; have hcz233_0 : w232.cell? ⟨gb360, 0, none⟩ = some (.slice Ao17 y354.length co17) := (blk_cell BK360.out 0).trans rfl; have hcz233_1 : w232.cell? ⟨gb360, 1, none⟩ = some (.slice (some ⟨go218, 0, none⟩) y357.length co16) := (blk_cell BK360.out 1).trans rfl; have hfz233_0 := blk_frozen BK360.out 0; have hfz233_1 := blk_frozen BK360.out 1) | ((with_reducible refine gate_callee (f := 20) rfl ?_); refine goesL_ (some 165) rfl rfl Tryd.func20 (by kernel_rfl) rfl #[.agg #[.slice Ao17 y354.length co17, .slice (some ⟨go218, 0, none⟩) y384.length co16]] rfl (by (try simp only [List.map_toArray, List.map_cons, List.map_nil]); first | done | (rw [show y384.length = y357.length from (Kd.R_reads' HO359.out).1.symm] <;> rfl) | rfl | (simp only [List.length_drop, List.length_take]; rfl)) ?_; (with_reducible refine (tree_May.calls k _ _ y354 _ _ y384 t385 _ ?side1 ?side2 ?side3 ?side4 A219.out).mono ?_); (case side1 => repeat (first | (with_reducible refine Kd.C_alloc ?_ _) | (with_reducible refine Kd.C_drewN ?_ _) | (with_reducible refine Kd.C_drew ?_) | exact (Kd.R_reads' HO356.out).2.2)); (case side2 => exact (Kd.R_reads' HO356.out).2.1); (case side3 => repeat (first | (with_reducible refine Kd.C_alloc ?_ _) | (with_reducible refine Kd.C_drewN ?_ _) | (with_reducible refine Kd.C_drew ?_) | exact (Kd.R_reads' HO359.out).2.2)); (case side4 => rw [show y384.length = y357.length from (Kd.R_reads' HO359.out).1.symm]; exact (Kd.R_reads' HO359.out).2.1); rintro e w234 ⟨rfl, hb⟩; refine ⟨_, rfl, ?_⟩; have n0_ := Aside0.mk (Kd.R_below (by (with_reducible repeat (first | apply Kd.R_alloc | apply Kd.R_drewN | apply Kd.R_drew)); exact HO356.out) hb); have n1_ := Aside0.mk (Kd.R_below (by (with_reducible repeat (first | apply Kd.R_alloc | apply Kd.R_drewN | apply Kd.R_drew)); exact HO359.out) hb); have n2_ := Aside0.mk (blk_below (g := gb360) (o := .cells #[.slice Ao17 y354.length co17, .slice (some ⟨go218, 0, none⟩) y357.length co16] 25 (0, 0)) (by (with_reducible repeat (first | refine blk_drewN ?_ _ | refine blk_drew ?_ | refine blk_alloc ?_ _)); exact BK360.out) hb); have n3_ := Aside0.mk (below_step (by repeat (first | (with_reducible first | exact HB.out | apply below_alloc | apply pw_below_drewN | apply below_drew1 | refine below_set ?_ GE360.out) | exact HB.out)) hb); clear HO356; clear HO359; clear BK360; clear HB; have HO356 := n0_; have HO359 := n1_; have BK360 := n2_; have HB := n3_; clear n0_ n1_ n2_ n3_; (try clear hb); (try clear hb2); (try clear hk); (try clear hi)))
                                go_ret
                                exact ⟨by first | rfl | (simp [errW_none, errW_some] <;> rfl) | (simp [*, errW_none, errW_some] <;> rfl), by repeat (first | (with_reducible first | exact HB.out | apply below_alloc | apply pw_below_drewN | apply below_drew1 | refine below_set ?_ GE360.out) | exact HB.out)⟩
                              · rw [if_neg c217] at H
                                exact absurd H (by simp)
                            · rw [if_neg c216] at H
                              have c216b0 : ((Int.tmod (IntKind.u64.wrap (a0)) 20) == 11) = false := beq_eq_false_iff_ne.mpr c216
                              have c216b1 : ((Int.tmod (IntKind.u64.wrap (a0)) 20) != 11) = true := bne_iff_ne.mpr c216
                              by_cases c235 : (Int.tmod (IntKind.u64.wrap (a0)) 20) = 12
                              · rw [if_pos c235] at H
                                have c235b0 : ((Int.tmod (IntKind.u64.wrap (a0)) 20) == 12) = true := beq_iff_eq.mpr c235
                                have c235b1 : ((Int.tmod (IntKind.u64.wrap (a0)) 20) != 12) = false := bne_eq_false_iff_eq.mpr c235
                                clear c235
                                by_cases c236 : 3 < (y357.length : Int)
                                · rw [if_pos c236] at H
                                  have c236b0 : decide (3 < (y357.length : Int)) = true := decide_eq_true c236
                                  have c236b1 : decide (3 < y357.length) = true := decide_eq_true (by omega)
                                  clear c236
                                  obtain ⟨y386, hy386⟩ : ∃ y_ : List (S45), y_ = (y357.set (3 : Int).toNat (⟨wrap64 (10 + (wrap64 (1 + (Go.bits .and .i64 a1 1023)))), (rd_T45 y357 3).f1, (rd_T45 y357 3).f2, (rd_T45 y357 3).f3, (rd_T45 y357 3).f4, (rd_T45 y357 3).f5, (rd_T45 y357 3).f6, (rd_T45 y357 3).f7, (rd_T45 y357 3).f8, (rd_T45 y357 3).f9⟩ : S45)) := ⟨_, rfl⟩
                                  first | rw [Option.bind_some, ← hy386] at H | rw [← hy386] at H
                                  (try dsimp only at H)
                                  have Ny386 := Aside0.mk hy386
                                  clear hy386
                                  replace H := Option.bind_eq_some_iff.mp H
                                  obtain ⟨t387, A2380, H⟩ := H
                                  (try dsimp only at H)
                                  have A238 := Aside0.mk A2380
                                  clear A2380
                                  obtain rfl := Option.some.inj H
                                  have hcz249_0 : w20.cell? ⟨gb360, 0, none⟩ = some (.slice Ao17 y354.length co17) := (blk_cell BK360.out 0).trans rfl
                                  have hcz249_1 : w20.cell? ⟨gb360, 1, none⟩ = some (.slice Ao16 y357.length co16) := (blk_cell BK360.out 1).trans rfl
                                  have hfz249_0 := blk_frozen BK360.out 0
                                  have hfz249_1 := blk_frozen BK360.out 1
                                  have p237 : 0 ≤ (3 : Int) := (by omega)
                                  have q237 : (3 : Int) < ((y357.length : Int) : Int) := of_decide_eq_true (by first | (with_reducible assumption) | assumption)
                                  have qi237 : (3 < y357.length) = True := eq_true (by omega)
                                  obtain ⟨go237, co237, eo237, gb237, gl237, cl237, HG237⟩ := Kd.R_form HO359.out (by omega)
                                  (first | cases eo237 | (injection eo237 with ea_ en_ ec_; (first | subst ea_ | (injection ea_ with ea_; subst ea_)); subst ec_; clear en_))
                                  have GB237 := Aside0.mk gb237
                                  have GG237 := Aside0.mk HG237
                                  clear gb237 gl237 HG237
                                  obtain ⟨ce237, hcl237, hM237, hcc237, hfr237⟩ := Kd.R_elem HO359.out z45 (3 : Int) p237 q237
                                  obtain rfl := k45_openM hM237
                                  have hx237_0 : w20.cell? ⟨go237, (3 : Int).toNat * 10, none⟩ = some (.int .i64 ((rd_T45 y357 3).f0)) := hcc237 0 _ rfl
                                  have hx237_1 : w20.cell? ⟨go237, (3 : Int).toNat * 10 + 1, none⟩ = some (.int .i64 ((rd_T45 y357 3).f1)) := hcc237 1 _ rfl
                                  have hx237_2 : w20.cell? ⟨go237, (3 : Int).toNat * 10 + 2, none⟩ = some (.int .i64 ((rd_T45 y357 3).f2)) := hcc237 2 _ rfl
                                  have hx237_3 : w20.cell? ⟨go237, (3 : Int).toNat * 10 + 3, none⟩ = some (.int .i64 ((rd_T45 y357 3).f3)) := hcc237 3 _ rfl
                                  have hx237_4 : w20.cell? ⟨go237, (3 : Int).toNat * 10 + 4, none⟩ = some (.int .i64 ((rd_T45 y357 3).f4)) := hcc237 4 _ rfl
                                  have hx237_5 : w20.cell? ⟨go237, (3 : Int).toNat * 10 + 5, none⟩ = some (.string ((rd_T45 y357 3).f5)) := hcc237 5 _ rfl
                                  have hx237_6 : w20.cell? ⟨go237, (3 : Int).toNat * 10 + 6, none⟩ = some (.string ((rd_T45 y357 3).f6)) := hcc237 6 _ rfl
                                  have hx237_7 : w20.cell? ⟨go237, (3 : Int).toNat * 10 + 7, none⟩ = some (.string ((rd_T45 y357 3).f7)) := hcc237 7 _ rfl
                                  have hx237_8 : w20.cell? ⟨go237, (3 : Int).toNat * 10 + 8, none⟩ = some (.string ((rd_T45 y357 3).f8)) := hcc237 8 _ rfl
                                  have hx237_9 : w20.cell? ⟨go237, (3 : Int).toNat * 10 + 9, none⟩ = some (.int .i64 ((rd_T45 y357 3).f9)) := hcc237 9 _ rfl
                                  have hf237_0 : w20.frozen? ⟨go237, (3 : Int).toNat * 10, none⟩ = false := hfr237 0
                                  have hf237_1 : w20.frozen? ⟨go237, (3 : Int).toNat * 10 + 1, none⟩ = false := hfr237 1
                                  have hf237_2 : w20.frozen? ⟨go237, (3 : Int).toNat * 10 + 2, none⟩ = false := hfr237 2
                                  have hf237_3 : w20.frozen? ⟨go237, (3 : Int).toNat * 10 + 3, none⟩ = false := hfr237 3
                                  have hf237_4 : w20.frozen? ⟨go237, (3 : Int).toNat * 10 + 4, none⟩ = false := hfr237 4
                                  have hf237_5 : w20.frozen? ⟨go237, (3 : Int).toNat * 10 + 5, none⟩ = false := hfr237 5
                                  have hf237_6 : w20.frozen? ⟨go237, (3 : Int).toNat * 10 + 6, none⟩ = false := hfr237 6
                                  have hf237_7 : w20.frozen? ⟨go237, (3 : Int).toNat * 10 + 7, none⟩ = false := hfr237 7
                                  have hf237_8 : w20.frozen? ⟨go237, (3 : Int).toNat * 10 + 8, none⟩ = false := hfr237 8
                                  have hf237_9 : w20.frozen? ⟨go237, (3 : Int).toNat * 10 + 9, none⟩ = false := hfr237 9
                                  clear hcl237 hcc237 hfr237 hM237
                                  (try rw [show ((3 : Int)).toNat = 3 from rfl] at hx237_0)
                                  (try simp only [Nat.reduceMul, Nat.zero_mul, Nat.zero_add, Nat.reduceAdd] at hx237_0)
                                  (try rw [show ((3 : Int)).toNat = 3 from rfl] at hf237_0)
                                  (try simp only [Nat.reduceMul, Nat.zero_mul, Nat.zero_add, Nat.reduceAdd] at hf237_0)
                                  (try rw [show ((3 : Int)).toNat = 3 from rfl] at hx237_1)
                                  (try simp only [Nat.reduceMul, Nat.zero_mul, Nat.zero_add, Nat.reduceAdd] at hx237_1)
                                  (try rw [show ((3 : Int)).toNat = 3 from rfl] at hf237_1)
                                  (try simp only [Nat.reduceMul, Nat.zero_mul, Nat.zero_add, Nat.reduceAdd] at hf237_1)
                                  (try rw [show ((3 : Int)).toNat = 3 from rfl] at hx237_2)
                                  (try simp only [Nat.reduceMul, Nat.zero_mul, Nat.zero_add, Nat.reduceAdd] at hx237_2)
                                  (try rw [show ((3 : Int)).toNat = 3 from rfl] at hf237_2)
                                  (try simp only [Nat.reduceMul, Nat.zero_mul, Nat.zero_add, Nat.reduceAdd] at hf237_2)
                                  (try rw [show ((3 : Int)).toNat = 3 from rfl] at hx237_3)
                                  (try simp only [Nat.reduceMul, Nat.zero_mul, Nat.zero_add, Nat.reduceAdd] at hx237_3)
                                  (try rw [show ((3 : Int)).toNat = 3 from rfl] at hf237_3)
                                  (try simp only [Nat.reduceMul, Nat.zero_mul, Nat.zero_add, Nat.reduceAdd] at hf237_3)
                                  (try rw [show ((3 : Int)).toNat = 3 from rfl] at hx237_4)
                                  (try simp only [Nat.reduceMul, Nat.zero_mul, Nat.zero_add, Nat.reduceAdd] at hx237_4)
                                  (try rw [show ((3 : Int)).toNat = 3 from rfl] at hf237_4)
                                  (try simp only [Nat.reduceMul, Nat.zero_mul, Nat.zero_add, Nat.reduceAdd] at hf237_4)
                                  (try rw [show ((3 : Int)).toNat = 3 from rfl] at hx237_5)
                                  (try simp only [Nat.reduceMul, Nat.zero_mul, Nat.zero_add, Nat.reduceAdd] at hx237_5)
                                  (try rw [show ((3 : Int)).toNat = 3 from rfl] at hf237_5)
                                  (try simp only [Nat.reduceMul, Nat.zero_mul, Nat.zero_add, Nat.reduceAdd] at hf237_5)
                                  (try rw [show ((3 : Int)).toNat = 3 from rfl] at hx237_6)
                                  (try simp only [Nat.reduceMul, Nat.zero_mul, Nat.zero_add, Nat.reduceAdd] at hx237_6)
                                  (try rw [show ((3 : Int)).toNat = 3 from rfl] at hf237_6)
                                  (try simp only [Nat.reduceMul, Nat.zero_mul, Nat.zero_add, Nat.reduceAdd] at hf237_6)
                                  (try rw [show ((3 : Int)).toNat = 3 from rfl] at hx237_7)
                                  (try simp only [Nat.reduceMul, Nat.zero_mul, Nat.zero_add, Nat.reduceAdd] at hx237_7)
                                  (try rw [show ((3 : Int)).toNat = 3 from rfl] at hf237_7)
                                  (try simp only [Nat.reduceMul, Nat.zero_mul, Nat.zero_add, Nat.reduceAdd] at hf237_7)
                                  (try rw [show ((3 : Int)).toNat = 3 from rfl] at hx237_8)
                                  (try simp only [Nat.reduceMul, Nat.zero_mul, Nat.zero_add, Nat.reduceAdd] at hx237_8)
                                  (try rw [show ((3 : Int)).toNat = 3 from rfl] at hf237_8)
                                  (try simp only [Nat.reduceMul, Nat.zero_mul, Nat.zero_add, Nat.reduceAdd] at hf237_8)
                                  (try rw [show ((3 : Int)).toNat = 3 from rfl] at hx237_9)
                                  (try simp only [Nat.reduceMul, Nat.zero_mul, Nat.zero_add, Nat.reduceAdd] at hx237_9)
                                  (try rw [show ((3 : Int)).toNat = 3 from rfl] at hf237_9)
                                  (try simp only [Nat.reduceMul, Nat.zero_mul, Nat.zero_add, Nat.reduceAdd] at hf237_9)
                                  replace p237 := eq_true p237
                                  replace q237 := eq_true q237
                                  have HX250 := Aside0.mk (show Kd.R k45 45 w20 w.heap.size (fun _ => True) (.slice (some ⟨go237, 0, none⟩) y357.length co16) y357 from (by (with_reducible repeat (first | apply Kd.R_alloc | apply Kd.R_drewN | apply Kd.R_drew)); exact HO359.out))
                                  obtain ⟨ce250, hcl250, hM250, hcc250, hfr250⟩ := Kd.R_elem HX250.out z45 (3 : Int) (by omega) (by have h_ : (3 : Int) < ((y357.length : Int) : Int) := of_decide_eq_true (by first | (with_reducible assumption) | assumption); first | exact h_ | (have e_ := (Kd.R_reads' HO359.out).1; omega) | simpa using h_)
                                  obtain rfl := k45_openM hM250
                                  have HP250 := Kd.R_seg HX250.out (3 : Int) (by omega) (by have h_ : (3 : Int) < ((y357.length : Int) : Int) := of_decide_eq_true (by first | (with_reducible assumption) | assumption); first | exact h_ | (have e_ := (Kd.R_reads' HO359.out).1; omega) | simpa using h_) (seg := [.int .i64 (wrap64 (10 + (wrap64 (1 + (Go.bits .and .i64 a1 1023)))))]) (j := 0) hcl250 hcc250 (show 1 ≤ 10 from by decide) (x' := (⟨wrap64 (10 + (wrap64 (1 + (Go.bits .and .i64 a1 1023)))), (rd_T45 y357 3).f1, (rd_T45 y357 3).f2, (rd_T45 y357 3).f3, (rd_T45 y357 3).f4, (rd_T45 y357 3).f5, (rd_T45 y357 3).f6, (rd_T45 y357 3).f7, (rd_T45 y357 3).f8, (rd_T45 y357 3).f9⟩ : S45)) (k45_mkM _ _ _ (⟨wrap64 (10 + (wrap64 (1 + (Go.bits .and .i64 a1 1023)))), (rd_T45 y357 3).f1, (rd_T45 y357 3).f2, (rd_T45 y357 3).f3, (rd_T45 y357 3).f4, (rd_T45 y357 3).f5, (rd_T45 y357 3).f6, (rd_T45 y357 3).f7, (rd_T45 y357 3).f8, (rd_T45 y357 3).f9⟩ : S45) ) (fun _ hk => hk)
                                  have hx250_0 := hcc250 0 _ rfl
                                  (try simp only [show (k45).sz = 10 from rfl, Nat.mul_one, Nat.add_zero] at hx250_0)
                                  (try rw [show ((3 : Int)).toNat = 3 from rfl] at hx250_0)
                                  (try simp only [Nat.reduceMul, Nat.zero_mul, Nat.zero_add, Nat.reduceAdd] at hx250_0)
                                  have hf250_0 := hfr250 0
                                  (try simp only [show (k45).sz = 10 from rfl, Nat.mul_one, Nat.add_zero] at hf250_0)
                                  (try rw [show ((3 : Int)).toNat = 3 from rfl] at hf250_0)
                                  (try simp only [Nat.reduceMul, Nat.zero_mul, Nat.zero_add, Nat.reduceAdd] at hf250_0)
                                  clear hcl250 hcc250 hfr250 hM250
                                  go_wp2_with (first | ((with_reducible refine gate_store (t := 3) (p := 123) rfl ?_); refine store_event (t := 3) (p := 123) (v := ?vo_w251) (w1 := (w20.setCell ⟨go237, 30, none⟩ (.int .i64 (wrap64 (10 + (wrap64 (1 + (Go.bits .and .i64 a1 1023)))))))) ?hg ?ho ?hn ?hr ?_; (case ho => rfl); (case hg => rfl); (case hn => rfl); (case hr => first | (go_simp; done) | (go_simp; rfl)); intro w251 hw; have hg : w20.grownBy w251 (some go237) := (by rw [hw]; exact HP250.2); have hp_ : Kd.R k45 45 w251 w.heap.size (fun _ => True) (.slice (some ⟨go237, 0, none⟩) y357.length co16) y386 := (by rw [hw, Ny386.out]; exact HP250.1); clear HP250; have n0_ := Aside0.mk (Kd.R_over' (v := (.slice (some ⟨go237, 0, none⟩) y357.length co16)) (by (with_reducible repeat (first | apply Kd.R_alloc | apply Kd.R_drewN | apply Kd.R_drew)); exact HO356.out) (Kd.R_typed HO359.out) (by decide) hg); have n1_ := Aside0.mk (hp_); have n2_ := Aside0.mk (blk_grown (g := gb360) (o := .cells #[.slice Ao17 y354.length co17, .slice (some ⟨go237, 0, none⟩) y357.length co16] 25 (0, 0)) (by (with_reducible repeat (first | refine blk_drewN ?_ _ | refine blk_drew ?_ | refine blk_alloc ?_ _)); exact BK360.out) hg (Kd.R_ne HO359.out BK360.out (by decide))); have n3_ := Aside0.mk ((by rw [hw]; exact below_set (HB.out) GB237.out : Below w.heap.size w w251)); clear HO356; clear HO359; clear BK360; clear HB; have HO356 := n0_; have HO359 := n1_; have BK360 := n2_; have HB := n3_; clear n0_ n1_ n2_ n3_; clear hg hw hp_; have hcz252_0 : w251.cell? ⟨gb360, 0, none⟩ = some (.slice Ao17 y354.length co17) := (blk_cell BK360.out 0).trans rfl; have hcz252_1 : w251.cell? ⟨gb360, 1, none⟩ = some (.slice (some ⟨go237, 0, none⟩) y357.length co16) := (blk_cell BK360.out 1).trans rfl; have hfz252_0 := blk_frozen BK360.out 0; have hfz252_1 := blk_frozen BK360.out 1) | ((with_reducible refine gate_callee (f := 20) rfl ?_); refine goesL_ (some 165) rfl rfl Tryd.func20 (by kernel_rfl) rfl #[.agg #[.slice Ao17 y354.length co17, .slice (some ⟨go237, 0, none⟩) y386.length co16]] rfl (by (try simp only [List.map_toArray, List.map_cons, List.map_nil]); first | done | (rw [show y386.length = y357.length from (Kd.R_reads' HO359.out).1.symm] <;> rfl) | rfl | (simp only [List.length_drop, List.length_take]; rfl)) ?_; (with_reducible refine (tree_May.calls k _ _ y354 _ _ y386 t387 _ ?side1 ?side2 ?side3 ?side4 A238.out).mono ?_); (case side1 => repeat (first | (with_reducible refine Kd.C_alloc ?_ _) | (with_reducible refine Kd.C_drewN ?_ _) | (with_reducible refine Kd.C_drew ?_) | exact (Kd.R_reads' HO356.out).2.2)); (case side2 => exact (Kd.R_reads' HO356.out).2.1); (case side3 => repeat (first | (with_reducible refine Kd.C_alloc ?_ _) | (with_reducible refine Kd.C_drewN ?_ _) | (with_reducible refine Kd.C_drew ?_) | exact (Kd.R_reads' HO359.out).2.2)); (case side4 => rw [show y386.length = y357.length from (Kd.R_reads' HO359.out).1.symm]; exact (Kd.R_reads' HO359.out).2.1); rintro e w253 ⟨rfl, hb⟩; refine ⟨_, rfl, ?_⟩; have n0_ := Aside0.mk (Kd.R_below (by (with_reducible repeat (first | apply Kd.R_alloc | apply Kd.R_drewN | apply Kd.R_drew)); exact HO356.out) hb); have n1_ := Aside0.mk (Kd.R_below (by (with_reducible repeat (first | apply Kd.R_alloc | apply Kd.R_drewN | apply Kd.R_drew)); exact HO359.out) hb); have n2_ := Aside0.mk (blk_below (g := gb360) (o := .cells #[.slice Ao17 y354.length co17, .slice (some ⟨go237, 0, none⟩) y357.length co16] 25 (0, 0)) (by (with_reducible repeat (first | refine blk_drewN ?_ _ | refine blk_drew ?_ | refine blk_alloc ?_ _)); exact BK360.out) hb); have n3_ := Aside0.mk (below_step (by repeat (first | (with_reducible first | exact HB.out | apply below_alloc | apply pw_below_drewN | apply below_drew1 | refine below_set ?_ GE360.out) | exact HB.out)) hb); clear HO356; clear HO359; clear BK360; clear HB; have HO356 := n0_; have HO359 := n1_; have BK360 := n2_; have HB := n3_; clear n0_ n1_ n2_ n3_; (try clear hb); (try clear hb2); (try clear hk); (try clear hi)))
                                  go_ret
                                  exact ⟨by first | rfl | (simp [errW_none, errW_some] <;> rfl) | (simp [*, errW_none, errW_some] <;> rfl), by repeat (first | (with_reducible first | exact HB.out | apply below_alloc | apply pw_below_drewN | apply below_drew1 | refine below_set ?_ GE360.out) | exact HB.out)⟩
                                · rw [if_neg c236] at H
                                  exact absurd H (by simp)
                              · rw [if_neg c235] at H
                                have c235b0 : ((Int.tmod (IntKind.u64.wrap (a0)) 20) == 12) = false := beq_eq_false_iff_ne.mpr c235
                                have c235b1 : ((Int.tmod (IntKind.u64.wrap (a0)) 20) != 12) = true := bne_iff_ne.mpr c235
                                by_cases c254 : (Int.tmod (IntKind.u64.wrap (a0)) 20) = 13
                                · rw [if_pos c254] at H
                                  have c254b0 : ((Int.tmod (IntKind.u64.wrap (a0)) 20) == 13) = true := beq_iff_eq.mpr c254
                                  have c254b1 : ((Int.tmod (IntKind.u64.wrap (a0)) 20) != 13) = false := bne_eq_false_iff_eq.mpr c254
                                  clear c254
                                  by_cases c255 : 0 < (y357.length : Int)
                                  · rw [if_pos c255] at H
                                    have c255b0 : decide (0 < (y357.length : Int)) = true := decide_eq_true c255
                                    have c255b1 : decide (0 < y357.length) = true := decide_eq_true (by omega)
                                    clear c255
                                    obtain ⟨y388, hy388⟩ : ∃ y_ : List (S45), y_ = (y357.set (0 : Int).toNat (⟨(rd_T45 y357 0).f0, (rd_T45 y357 0).f1, (rd_T45 y357 0).f2, (rd_T45 y357 0).f3, (rd_T45 y357 0).f4, (rd_T45 y357 0).f5, (rd_T45 y357 0).f6, (rd_T45 y357 0).f7, (rd_T45 y357 0).f8, wrap64 (-(wrap64 (1 + (Go.bits .and .i64 a1 1023))))⟩ : S45)) := ⟨_, rfl⟩
                                    first | rw [Option.bind_some, ← hy388] at H | rw [← hy388] at H
                                    (try dsimp only at H)
                                    have Ny388 := Aside0.mk hy388
                                    clear hy388
                                    replace H := Option.bind_eq_some_iff.mp H
                                    obtain ⟨t389, A2570, H⟩ := H
                                    (try dsimp only at H)
                                    have A257 := Aside0.mk A2570
                                    clear A2570
                                    obtain rfl := Option.some.inj H
                                    have hcz268_0 : w20.cell? ⟨gb360, 0, none⟩ = some (.slice Ao17 y354.length co17) := (blk_cell BK360.out 0).trans rfl
                                    have hcz268_1 : w20.cell? ⟨gb360, 1, none⟩ = some (.slice Ao16 y357.length co16) := (blk_cell BK360.out 1).trans rfl
                                    have hfz268_0 := blk_frozen BK360.out 0
                                    have hfz268_1 := blk_frozen BK360.out 1
                                    have p256 : 0 ≤ (0 : Int) := (by omega)
                                    have q256 : (0 : Int) < ((y357.length : Int) : Int) := of_decide_eq_true (by first | (with_reducible assumption) | assumption)
                                    have qi256 : (0 < y357.length) = True := eq_true (by omega)
                                    obtain ⟨go256, co256, eo256, gb256, gl256, cl256, HG256⟩ := Kd.R_form HO359.out (by omega)
                                    (first | cases eo256 | (injection eo256 with ea_ en_ ec_; (first | subst ea_ | (injection ea_ with ea_; subst ea_)); subst ec_; clear en_))
                                    have GB256 := Aside0.mk gb256
                                    have GG256 := Aside0.mk HG256
                                    clear gb256 gl256 HG256
                                    obtain ⟨ce256, hcl256, hM256, hcc256, hfr256⟩ := Kd.R_elem HO359.out z45 (0 : Int) p256 q256
                                    obtain rfl := k45_openM hM256
                                    have hx256_0 : w20.cell? ⟨go256, (0 : Int).toNat * 10, none⟩ = some (.int .i64 ((rd_T45 y357 0).f0)) := hcc256 0 _ rfl
                                    have hx256_1 : w20.cell? ⟨go256, (0 : Int).toNat * 10 + 1, none⟩ = some (.int .i64 ((rd_T45 y357 0).f1)) := hcc256 1 _ rfl
                                    have hx256_2 : w20.cell? ⟨go256, (0 : Int).toNat * 10 + 2, none⟩ = some (.int .i64 ((rd_T45 y357 0).f2)) := hcc256 2 _ rfl
                                    have hx256_3 : w20.cell? ⟨go256, (0 : Int).toNat * 10 + 3, none⟩ = some (.int .i64 ((rd_T45 y357 0).f3)) := hcc256 3 _ rfl
                                    have hx256_4 : w20.cell? ⟨go256, (0 : Int).toNat * 10 + 4, none⟩ = some (.int .i64 ((rd_T45 y357 0).f4)) := hcc256 4 _ rfl
                                    have hx256_5 : w20.cell? ⟨go256, (0 : Int).toNat * 10 + 5, none⟩ = some (.string ((rd_T45 y357 0).f5)) := hcc256 5 _ rfl
                                    have hx256_6 : w20.cell? ⟨go256, (0 : Int).toNat * 10 + 6, none⟩ = some (.string ((rd_T45 y357 0).f6)) := hcc256 6 _ rfl
                                    have hx256_7 : w20.cell? ⟨go256, (0 : Int).toNat * 10 + 7, none⟩ = some (.string ((rd_T45 y357 0).f7)) := hcc256 7 _ rfl
                                    have hx256_8 : w20.cell? ⟨go256, (0 : Int).toNat * 10 + 8, none⟩ = some (.string ((rd_T45 y357 0).f8)) := hcc256 8 _ rfl
                                    have hx256_9 : w20.cell? ⟨go256, (0 : Int).toNat * 10 + 9, none⟩ = some (.int .i64 ((rd_T45 y357 0).f9)) := hcc256 9 _ rfl
                                    have hf256_0 : w20.frozen? ⟨go256, (0 : Int).toNat * 10, none⟩ = false := hfr256 0
                                    have hf256_1 : w20.frozen? ⟨go256, (0 : Int).toNat * 10 + 1, none⟩ = false := hfr256 1
                                    have hf256_2 : w20.frozen? ⟨go256, (0 : Int).toNat * 10 + 2, none⟩ = false := hfr256 2
                                    have hf256_3 : w20.frozen? ⟨go256, (0 : Int).toNat * 10 + 3, none⟩ = false := hfr256 3
                                    have hf256_4 : w20.frozen? ⟨go256, (0 : Int).toNat * 10 + 4, none⟩ = false := hfr256 4
                                    have hf256_5 : w20.frozen? ⟨go256, (0 : Int).toNat * 10 + 5, none⟩ = false := hfr256 5
                                    have hf256_6 : w20.frozen? ⟨go256, (0 : Int).toNat * 10 + 6, none⟩ = false := hfr256 6
                                    have hf256_7 : w20.frozen? ⟨go256, (0 : Int).toNat * 10 + 7, none⟩ = false := hfr256 7
                                    have hf256_8 : w20.frozen? ⟨go256, (0 : Int).toNat * 10 + 8, none⟩ = false := hfr256 8
                                    have hf256_9 : w20.frozen? ⟨go256, (0 : Int).toNat * 10 + 9, none⟩ = false := hfr256 9
                                    clear hcl256 hcc256 hfr256 hM256
                                    (try rw [show ((0 : Int)).toNat = 0 from rfl] at hx256_0)
                                    (try simp only [Nat.reduceMul, Nat.zero_mul, Nat.zero_add, Nat.reduceAdd] at hx256_0)
                                    (try rw [show ((0 : Int)).toNat = 0 from rfl] at hf256_0)
                                    (try simp only [Nat.reduceMul, Nat.zero_mul, Nat.zero_add, Nat.reduceAdd] at hf256_0)
                                    (try rw [show ((0 : Int)).toNat = 0 from rfl] at hx256_1)
                                    (try simp only [Nat.reduceMul, Nat.zero_mul, Nat.zero_add, Nat.reduceAdd] at hx256_1)
                                    (try rw [show ((0 : Int)).toNat = 0 from rfl] at hf256_1)
                                    (try simp only [Nat.reduceMul, Nat.zero_mul, Nat.zero_add, Nat.reduceAdd] at hf256_1)
                                    (try rw [show ((0 : Int)).toNat = 0 from rfl] at hx256_2)
                                    (try simp only [Nat.reduceMul, Nat.zero_mul, Nat.zero_add, Nat.reduceAdd] at hx256_2)
                                    (try rw [show ((0 : Int)).toNat = 0 from rfl] at hf256_2)
                                    (try simp only [Nat.reduceMul, Nat.zero_mul, Nat.zero_add, Nat.reduceAdd] at hf256_2)
                                    (try rw [show ((0 : Int)).toNat = 0 from rfl] at hx256_3)
                                    (try simp only [Nat.reduceMul, Nat.zero_mul, Nat.zero_add, Nat.reduceAdd] at hx256_3)
                                    (try rw [show ((0 : Int)).toNat = 0 from rfl] at hf256_3)
                                    (try simp only [Nat.reduceMul, Nat.zero_mul, Nat.zero_add, Nat.reduceAdd] at hf256_3)
                                    (try rw [show ((0 : Int)).toNat = 0 from rfl] at hx256_4)
                                    (try simp only [Nat.reduceMul, Nat.zero_mul, Nat.zero_add, Nat.reduceAdd] at hx256_4)
                                    (try rw [show ((0 : Int)).toNat = 0 from rfl] at hf256_4)
                                    (try simp only [Nat.reduceMul, Nat.zero_mul, Nat.zero_add, Nat.reduceAdd] at hf256_4)
                                    (try rw [show ((0 : Int)).toNat = 0 from rfl] at hx256_5)
                                    (try simp only [Nat.reduceMul, Nat.zero_mul, Nat.zero_add, Nat.reduceAdd] at hx256_5)
                                    (try rw [show ((0 : Int)).toNat = 0 from rfl] at hf256_5)
                                    (try simp only [Nat.reduceMul, Nat.zero_mul, Nat.zero_add, Nat.reduceAdd] at hf256_5)
                                    (try rw [show ((0 : Int)).toNat = 0 from rfl] at hx256_6)
                                    (try simp only [Nat.reduceMul, Nat.zero_mul, Nat.zero_add, Nat.reduceAdd] at hx256_6)
                                    (try rw [show ((0 : Int)).toNat = 0 from rfl] at hf256_6)
                                    (try simp only [Nat.reduceMul, Nat.zero_mul, Nat.zero_add, Nat.reduceAdd] at hf256_6)
                                    (try rw [show ((0 : Int)).toNat = 0 from rfl] at hx256_7)
                                    (try simp only [Nat.reduceMul, Nat.zero_mul, Nat.zero_add, Nat.reduceAdd] at hx256_7)
                                    (try rw [show ((0 : Int)).toNat = 0 from rfl] at hf256_7)
                                    (try simp only [Nat.reduceMul, Nat.zero_mul, Nat.zero_add, Nat.reduceAdd] at hf256_7)
                                    (try rw [show ((0 : Int)).toNat = 0 from rfl] at hx256_8)
                                    (try simp only [Nat.reduceMul, Nat.zero_mul, Nat.zero_add, Nat.reduceAdd] at hx256_8)
                                    (try rw [show ((0 : Int)).toNat = 0 from rfl] at hf256_8)
                                    (try simp only [Nat.reduceMul, Nat.zero_mul, Nat.zero_add, Nat.reduceAdd] at hf256_8)
                                    (try rw [show ((0 : Int)).toNat = 0 from rfl] at hx256_9)
                                    (try simp only [Nat.reduceMul, Nat.zero_mul, Nat.zero_add, Nat.reduceAdd] at hx256_9)
                                    (try rw [show ((0 : Int)).toNat = 0 from rfl] at hf256_9)
                                    (try simp only [Nat.reduceMul, Nat.zero_mul, Nat.zero_add, Nat.reduceAdd] at hf256_9)
                                    replace p256 := eq_true p256
                                    replace q256 := eq_true q256
                                    have HX269 := Aside0.mk (show Kd.R k45 45 w20 w.heap.size (fun _ => True) (.slice (some ⟨go256, 0, none⟩) y357.length co16) y357 from (by (with_reducible repeat (first | apply Kd.R_alloc | apply Kd.R_drewN | apply Kd.R_drew)); exact HO359.out))
                                    obtain ⟨ce269, hcl269, hM269, hcc269, hfr269⟩ := Kd.R_elem HX269.out z45 (0 : Int) (by omega) (by have h_ : (0 : Int) < ((y357.length : Int) : Int) := of_decide_eq_true (by first | (with_reducible assumption) | assumption); first | exact h_ | (have e_ := (Kd.R_reads' HO359.out).1; omega) | simpa using h_)
                                    obtain rfl := k45_openM hM269
                                    have HP269 := Kd.R_seg HX269.out (0 : Int) (by omega) (by have h_ : (0 : Int) < ((y357.length : Int) : Int) := of_decide_eq_true (by first | (with_reducible assumption) | assumption); first | exact h_ | (have e_ := (Kd.R_reads' HO359.out).1; omega) | simpa using h_) (seg := [.int .i64 (wrap64 (-(wrap64 (1 + (Go.bits .and .i64 a1 1023)))))]) (j := 9) hcl269 hcc269 (show 10 ≤ 10 from by decide) (x' := (⟨(rd_T45 y357 0).f0, (rd_T45 y357 0).f1, (rd_T45 y357 0).f2, (rd_T45 y357 0).f3, (rd_T45 y357 0).f4, (rd_T45 y357 0).f5, (rd_T45 y357 0).f6, (rd_T45 y357 0).f7, (rd_T45 y357 0).f8, wrap64 (-(wrap64 (1 + (Go.bits .and .i64 a1 1023))))⟩ : S45)) (k45_mkM _ _ _ (⟨(rd_T45 y357 0).f0, (rd_T45 y357 0).f1, (rd_T45 y357 0).f2, (rd_T45 y357 0).f3, (rd_T45 y357 0).f4, (rd_T45 y357 0).f5, (rd_T45 y357 0).f6, (rd_T45 y357 0).f7, (rd_T45 y357 0).f8, wrap64 (-(wrap64 (1 + (Go.bits .and .i64 a1 1023))))⟩ : S45) ) (fun _ hk => hk)
                                    have hx269_9 := hcc269 9 _ rfl
                                    (try simp only [show (k45).sz = 10 from rfl, Nat.mul_one, Nat.add_zero] at hx269_9)
                                    (try rw [show ((0 : Int)).toNat = 0 from rfl] at hx269_9)
                                    (try simp only [Nat.reduceMul, Nat.zero_mul, Nat.zero_add, Nat.reduceAdd] at hx269_9)
                                    have hf269_9 := hfr269 9
                                    (try simp only [show (k45).sz = 10 from rfl, Nat.mul_one, Nat.add_zero] at hf269_9)
                                    (try rw [show ((0 : Int)).toNat = 0 from rfl] at hf269_9)
                                    (try simp only [Nat.reduceMul, Nat.zero_mul, Nat.zero_add, Nat.reduceAdd] at hf269_9)
                                    clear hcl269 hcc269 hfr269 hM269
                                    go_wp2_with (first | ((with_reducible refine gate_store (t := 3) (p := 131) rfl ?_); refine store_event (t := 3) (p := 131) (v := ?vo_w270) (w1 := (w20.setCell ⟨go256, 9, none⟩ (.int .i64 (wrap64 (-(wrap64 (1 + (Go.bits .and .i64 a1 1023)))))))) ?hg ?ho ?hn ?hr ?_; (case ho => rfl); (case hg => rfl); (case hn => rfl); (case hr => first | (go_simp; done) | (go_simp; rfl)); intro w270 hw; have hg : w20.grownBy w270 (some go256) := (by rw [hw]; exact HP269.2); have hp_ : Kd.R k45 45 w270 w.heap.size (fun _ => True) (.slice (some ⟨go256, 0, none⟩) y357.length co16) y388 := (by rw [hw, Ny388.out]; exact HP269.1); clear HP269; have n0_ := Aside0.mk (Kd.R_over' (v := (.slice (some ⟨go256, 0, none⟩) y357.length co16)) (by (with_reducible repeat (first | apply Kd.R_alloc | apply Kd.R_drewN | apply Kd.R_drew)); exact HO356.out) (Kd.R_typed HO359.out) (by decide) hg); have n1_ := Aside0.mk (hp_); have n2_ := Aside0.mk (blk_grown (g := gb360) (o := .cells #[.slice Ao17 y354.length co17, .slice (some ⟨go256, 0, none⟩) y357.length co16] 25 (0, 0)) (by (with_reducible repeat (first | refine blk_drewN ?_ _ | refine blk_drew ?_ | refine blk_alloc ?_ _)); exact BK360.out) hg (Kd.R_ne HO359.out BK360.out (by decide))); have n3_ := Aside0.mk ((by rw [hw]; exact below_set (HB.out) GB256.out : Below w.heap.size w w270)); clear HO356; clear HO359; clear BK360; clear HB; have HO356 := n0_; have HO359 := n1_; have BK360 := n2_; have HB := n3_; clear n0_ n1_ n2_ n3_; clear hg hw hp_; have hcz271_0 : w270.cell? ⟨gb360, 0, none⟩ = some (.slice Ao17 y354.length co17) := (blk_cell BK360.out 0).trans rfl; have hcz271_1 : w270.cell? ⟨gb360, 1, none⟩ = some (.slice (some ⟨go256, 0, none⟩) y357.length co16) := (blk_cell BK360.out 1).trans rfl; have hfz271_0 := blk_frozen BK360.out 0; have hfz271_1 := blk_frozen BK360.out 1) | ((with_reducible refine gate_callee (f := 20) rfl ?_); refine goesL_ (some 165) rfl rfl Tryd.func20 (by kernel_rfl) rfl #[.agg #[.slice Ao17 y354.length co17, .slice (some ⟨go256, 0, none⟩) y388.length co16]] rfl (by (try simp only [List.map_toArray, List.map_cons, List.map_nil]); first | done | (rw [show y388.length = y357.length from (Kd.R_reads' HO359.out).1.symm] <;> rfl) | rfl | (simp only [List.length_drop, List.length_take]; rfl)) ?_; (with_reducible refine (tree_May.calls k _ _ y354 _ _ y388 t389 _ ?side1 ?side2 ?side3 ?side4 A257.out).mono ?_); (case side1 => repeat (first | (with_reducible refine Kd.C_alloc ?_ _) | (with_reducible refine Kd.C_drewN ?_ _) | (with_reducible refine Kd.C_drew ?_) | exact (Kd.R_reads' HO356.out).2.2)); (case side2 => exact (Kd.R_reads' HO356.out).2.1); (case side3 => repeat (first | (with_reducible refine Kd.C_alloc ?_ _) | (with_reducible refine Kd.C_drewN ?_ _) | (with_reducible refine Kd.C_drew ?_) | exact (Kd.R_reads' HO359.out).2.2)); (case side4 => rw [show y388.length = y357.length from (Kd.R_reads' HO359.out).1.symm]; exact (Kd.R_reads' HO359.out).2.1); rintro e w272 ⟨rfl, hb⟩; refine ⟨_, rfl, ?_⟩; have n0_ := Aside0.mk (Kd.R_below (by (with_reducible repeat (first | apply Kd.R_alloc | apply Kd.R_drewN | apply Kd.R_drew)); exact HO356.out) hb); have n1_ := Aside0.mk (Kd.R_below (by (with_reducible repeat (first | apply Kd.R_alloc | apply Kd.R_drewN | apply Kd.R_drew)); exact HO359.out) hb); have n2_ := Aside0.mk (blk_below (g := gb360) (o := .cells #[.slice Ao17 y354.length co17, .slice (some ⟨go256, 0, none⟩) y357.length co16] 25 (0, 0)) (by (with_reducible repeat (first | refine blk_drewN ?_ _ | refine blk_drew ?_ | refine blk_alloc ?_ _)); exact BK360.out) hb); have n3_ := Aside0.mk (below_step (by repeat (first | (with_reducible first | exact HB.out | apply below_alloc | apply pw_below_drewN | apply below_drew1 | refine below_set ?_ GE360.out) | exact HB.out)) hb); clear HO356; clear HO359; clear BK360; clear HB; have HO356 := n0_; have HO359 := n1_; have BK360 := n2_; have HB := n3_; clear n0_ n1_ n2_ n3_; (try clear hb); (try clear hb2); (try clear hk); (try clear hi)))
                                    go_ret
                                    exact ⟨by first | rfl | (simp [errW_none, errW_some] <;> rfl) | (simp [*, errW_none, errW_some] <;> rfl), by repeat (first | (with_reducible first | exact HB.out | apply below_alloc | apply pw_below_drewN | apply below_drew1 | refine below_set ?_ GE360.out) | exact HB.out)⟩
                                  · rw [if_neg c255] at H
                                    exact absurd H (by simp)
                                · rw [if_neg c254] at H
                                  have c254b0 : ((Int.tmod (IntKind.u64.wrap (a0)) 20) == 13) = false := beq_eq_false_iff_ne.mpr c254
                                  have c254b1 : ((Int.tmod (IntKind.u64.wrap (a0)) 20) != 13) = true := bne_iff_ne.mpr c254
                                  by_cases c273 : (Int.tmod (IntKind.u64.wrap (a0)) 20) = 14
                                  · rw [if_pos c273] at H
                                    have c273b0 : ((Int.tmod (IntKind.u64.wrap (a0)) 20) == 14) = true := beq_iff_eq.mpr c273
                                    have c273b1 : ((Int.tmod (IntKind.u64.wrap (a0)) 20) != 14) = false := bne_eq_false_iff_eq.mpr c273
                                    clear c273
                                    by_cases c274 : 0 < (y357.length : Int)
                                    · rw [if_pos c274] at H
                                      have c274b0 : decide (0 < (y357.length : Int)) = true := decide_eq_true c274
                                      have c274b1 : decide (0 < y357.length) = true := decide_eq_true (by omega)
                                      clear c274
                                      obtain ⟨y390, hy390⟩ : ∃ y_ : List (S45), y_ = (y357.set (0 : Int).toNat (⟨(rd_T45 y357 0).f0, (rd_T45 y357 0).f1, (rd_T45 y357 0).f2, (rd_T45 y357 0).f3, (rd_T45 y357 0).f4, (rd_T45 y357 0).f5, (rd_T45 y357 0).f6, (rd_T45 y357 0).f7, (rd_T45 y357 0).f8, wrap64 (4096 + (wrap64 (1 + (Go.bits .and .i64 a1 1023))))⟩ : S45)) := ⟨_, rfl⟩
                                      first | rw [Option.bind_some, ← hy390] at H | rw [← hy390] at H
                                      (try dsimp only at H)
                                      have Ny390 := Aside0.mk hy390
                                      clear hy390
                                      replace H := Option.bind_eq_some_iff.mp H
                                      obtain ⟨t391, A2760, H⟩ := H
                                      (try dsimp only at H)
                                      have A276 := Aside0.mk A2760
                                      clear A2760
                                      obtain rfl := Option.some.inj H
                                      have hcz287_0 : w20.cell? ⟨gb360, 0, none⟩ = some (.slice Ao17 y354.length co17) := (blk_cell BK360.out 0).trans rfl
                                      have hcz287_1 : w20.cell? ⟨gb360, 1, none⟩ = some (.slice Ao16 y357.length co16) := (blk_cell BK360.out 1).trans rfl
                                      have hfz287_0 := blk_frozen BK360.out 0
                                      have hfz287_1 := blk_frozen BK360.out 1
                                      have p275 : 0 ≤ (0 : Int) := (by omega)
                                      have q275 : (0 : Int) < ((y357.length : Int) : Int) := of_decide_eq_true (by first | (with_reducible assumption) | assumption)
                                      have qi275 : (0 < y357.length) = True := eq_true (by omega)
                                      obtain ⟨go275, co275, eo275, gb275, gl275, cl275, HG275⟩ := Kd.R_form HO359.out (by omega)
                                      (first | cases eo275 | (injection eo275 with ea_ en_ ec_; (first | subst ea_ | (injection ea_ with ea_; subst ea_)); subst ec_; clear en_))
                                      have GB275 := Aside0.mk gb275
                                      have GG275 := Aside0.mk HG275
                                      clear gb275 gl275 HG275
                                      obtain ⟨ce275, hcl275, hM275, hcc275, hfr275⟩ := Kd.R_elem HO359.out z45 (0 : Int) p275 q275
                                      obtain rfl := k45_openM hM275
                                      have hx275_0 : w20.cell? ⟨go275, (0 : Int).toNat * 10, none⟩ = some (.int .i64 ((rd_T45 y357 0).f0)) := hcc275 0 _ rfl
                                      have hx275_1 : w20.cell? ⟨go275, (0 : Int).toNat * 10 + 1, none⟩ = some (.int .i64 ((rd_T45 y357 0).f1)) := hcc275 1 _ rfl
                                      have hx275_2 : w20.cell? ⟨go275, (0 : Int).toNat * 10 + 2, none⟩ = some (.int .i64 ((rd_T45 y357 0).f2)) := hcc275 2 _ rfl
                                      have hx275_3 : w20.cell? ⟨go275, (0 : Int).toNat * 10 + 3, none⟩ = some (.int .i64 ((rd_T45 y357 0).f3)) := hcc275 3 _ rfl
                                      have hx275_4 : w20.cell? ⟨go275, (0 : Int).toNat * 10 + 4, none⟩ = some (.int .i64 ((rd_T45 y357 0).f4)) := hcc275 4 _ rfl
                                      have hx275_5 : w20.cell? ⟨go275, (0 : Int).toNat * 10 + 5, none⟩ = some (.string ((rd_T45 y357 0).f5)) := hcc275 5 _ rfl
                                      have hx275_6 : w20.cell? ⟨go275, (0 : Int).toNat * 10 + 6, none⟩ = some (.string ((rd_T45 y357 0).f6)) := hcc275 6 _ rfl
                                      have hx275_7 : w20.cell? ⟨go275, (0 : Int).toNat * 10 + 7, none⟩ = some (.string ((rd_T45 y357 0).f7)) := hcc275 7 _ rfl
                                      have hx275_8 : w20.cell? ⟨go275, (0 : Int).toNat * 10 + 8, none⟩ = some (.string ((rd_T45 y357 0).f8)) := hcc275 8 _ rfl
                                      have hx275_9 : w20.cell? ⟨go275, (0 : Int).toNat * 10 + 9, none⟩ = some (.int .i64 ((rd_T45 y357 0).f9)) := hcc275 9 _ rfl
                                      have hf275_0 : w20.frozen? ⟨go275, (0 : Int).toNat * 10, none⟩ = false := hfr275 0
                                      have hf275_1 : w20.frozen? ⟨go275, (0 : Int).toNat * 10 + 1, none⟩ = false := hfr275 1
                                      have hf275_2 : w20.frozen? ⟨go275, (0 : Int).toNat * 10 + 2, none⟩ = false := hfr275 2
                                      have hf275_3 : w20.frozen? ⟨go275, (0 : Int).toNat * 10 + 3, none⟩ = false := hfr275 3
                                      have hf275_4 : w20.frozen? ⟨go275, (0 : Int).toNat * 10 + 4, none⟩ = false := hfr275 4
                                      have hf275_5 : w20.frozen? ⟨go275, (0 : Int).toNat * 10 + 5, none⟩ = false := hfr275 5
                                      have hf275_6 : w20.frozen? ⟨go275, (0 : Int).toNat * 10 + 6, none⟩ = false := hfr275 6
                                      have hf275_7 : w20.frozen? ⟨go275, (0 : Int).toNat * 10 + 7, none⟩ = false := hfr275 7
                                      have hf275_8 : w20.frozen? ⟨go275, (0 : Int).toNat * 10 + 8, none⟩ = false := hfr275 8
                                      have hf275_9 : w20.frozen? ⟨go275, (0 : Int).toNat * 10 + 9, none⟩ = false := hfr275 9
                                      clear hcl275 hcc275 hfr275 hM275
                                      (try rw [show ((0 : Int)).toNat = 0 from rfl] at hx275_0)
                                      (try simp only [Nat.reduceMul, Nat.zero_mul, Nat.zero_add, Nat.reduceAdd] at hx275_0)
                                      (try rw [show ((0 : Int)).toNat = 0 from rfl] at hf275_0)
                                      (try simp only [Nat.reduceMul, Nat.zero_mul, Nat.zero_add, Nat.reduceAdd] at hf275_0)
                                      (try rw [show ((0 : Int)).toNat = 0 from rfl] at hx275_1)
                                      (try simp only [Nat.reduceMul, Nat.zero_mul, Nat.zero_add, Nat.reduceAdd] at hx275_1)
                                      (try rw [show ((0 : Int)).toNat = 0 from rfl] at hf275_1)
                                      (try simp only [Nat.reduceMul, Nat.zero_mul, Nat.zero_add, Nat.reduceAdd] at hf275_1)
                                      (try rw [show ((0 : Int)).toNat = 0 from rfl] at hx275_2)
                                      (try simp only [Nat.reduceMul, Nat.zero_mul, Nat.zero_add, Nat.reduceAdd] at hx275_2)
                                      (try rw [show ((0 : Int)).toNat = 0 from rfl] at hf275_2)
                                      (try simp only [Nat.reduceMul, Nat.zero_mul, Nat.zero_add, Nat.reduceAdd] at hf275_2)
                                      (try rw [show ((0 : Int)).toNat = 0 from rfl] at hx275_3)
                                      (try simp only [Nat.reduceMul, Nat.zero_mul, Nat.zero_add, Nat.reduceAdd] at hx275_3)
                                      (try rw [show ((0 : Int)).toNat = 0 from rfl] at hf275_3)
                                      (try simp only [Nat.reduceMul, Nat.zero_mul, Nat.zero_add, Nat.reduceAdd] at hf275_3)
                                      (try rw [show ((0 : Int)).toNat = 0 from rfl] at hx275_4)
                                      (try simp only [Nat.reduceMul, Nat.zero_mul, Nat.zero_add, Nat.reduceAdd] at hx275_4)
                                      (try rw [show ((0 : Int)).toNat = 0 from rfl] at hf275_4)
                                      (try simp only [Nat.reduceMul, Nat.zero_mul, Nat.zero_add, Nat.reduceAdd] at hf275_4)
                                      (try rw [show ((0 : Int)).toNat = 0 from rfl] at hx275_5)
                                      (try simp only [Nat.reduceMul, Nat.zero_mul, Nat.zero_add, Nat.reduceAdd] at hx275_5)
                                      (try rw [show ((0 : Int)).toNat = 0 from rfl] at hf275_5)
                                      (try simp only [Nat.reduceMul, Nat.zero_mul, Nat.zero_add, Nat.reduceAdd] at hf275_5)
                                      (try rw [show ((0 : Int)).toNat = 0 from rfl] at hx275_6)
                                      (try simp only [Nat.reduceMul, Nat.zero_mul, Nat.zero_add, Nat.reduceAdd] at hx275_6)
                                      (try rw [show ((0 : Int)).toNat = 0 from rfl] at hf275_6)
                                      (try simp only [Nat.reduceMul, Nat.zero_mul, Nat.zero_add, Nat.reduceAdd] at hf275_6)
                                      (try rw [show ((0 : Int)).toNat = 0 from rfl] at hx275_7)
                                      (try simp only [Nat.reduceMul, Nat.zero_mul, Nat.zero_add, Nat.reduceAdd] at hx275_7)
                                      (try rw [show ((0 : Int)).toNat = 0 from rfl] at hf275_7)
                                      (try simp only [Nat.reduceMul, Nat.zero_mul, Nat.zero_add, Nat.reduceAdd] at hf275_7)
                                      (try rw [show ((0 : Int)).toNat = 0 from rfl] at hx275_8)
                                      (try simp only [Nat.reduceMul, Nat.zero_mul, Nat.zero_add, Nat.reduceAdd] at hx275_8)
                                      (try rw [show ((0 : Int)).toNat = 0 from rfl] at hf275_8)
                                      (try simp only [Nat.reduceMul, Nat.zero_mul, Nat.zero_add, Nat.reduceAdd] at hf275_8)
                                      (try rw [show ((0 : Int)).toNat = 0 from rfl] at hx275_9)
                                      (try simp only [Nat.reduceMul, Nat.zero_mul, Nat.zero_add, Nat.reduceAdd] at hx275_9)
                                      (try rw [show ((0 : Int)).toNat = 0 from rfl] at hf275_9)
                                      (try simp only [Nat.reduceMul, Nat.zero_mul, Nat.zero_add, Nat.reduceAdd] at hf275_9)
                                      replace p275 := eq_true p275
                                      replace q275 := eq_true q275
                                      have HX288 := Aside0.mk (show Kd.R k45 45 w20 w.heap.size (fun _ => True) (.slice (some ⟨go275, 0, none⟩) y357.length co16) y357 from (by (with_reducible repeat (first | apply Kd.R_alloc | apply Kd.R_drewN | apply Kd.R_drew)); exact HO359.out))
                                      obtain ⟨ce288, hcl288, hM288, hcc288, hfr288⟩ := Kd.R_elem HX288.out z45 (0 : Int) (by omega) (by have h_ : (0 : Int) < ((y357.length : Int) : Int) := of_decide_eq_true (by first | (with_reducible assumption) | assumption); first | exact h_ | (have e_ := (Kd.R_reads' HO359.out).1; omega) | simpa using h_)
                                      obtain rfl := k45_openM hM288
                                      have HP288 := Kd.R_seg HX288.out (0 : Int) (by omega) (by have h_ : (0 : Int) < ((y357.length : Int) : Int) := of_decide_eq_true (by first | (with_reducible assumption) | assumption); first | exact h_ | (have e_ := (Kd.R_reads' HO359.out).1; omega) | simpa using h_) (seg := [.int .i64 (wrap64 (4096 + (wrap64 (1 + (Go.bits .and .i64 a1 1023)))))]) (j := 9) hcl288 hcc288 (show 10 ≤ 10 from by decide) (x' := (⟨(rd_T45 y357 0).f0, (rd_T45 y357 0).f1, (rd_T45 y357 0).f2, (rd_T45 y357 0).f3, (rd_T45 y357 0).f4, (rd_T45 y357 0).f5, (rd_T45 y357 0).f6, (rd_T45 y357 0).f7, (rd_T45 y357 0).f8, wrap64 (4096 + (wrap64 (1 + (Go.bits .and .i64 a1 1023))))⟩ : S45)) (k45_mkM _ _ _ (⟨(rd_T45 y357 0).f0, (rd_T45 y357 0).f1, (rd_T45 y357 0).f2, (rd_T45 y357 0).f3, (rd_T45 y357 0).f4, (rd_T45 y357 0).f5, (rd_T45 y357 0).f6, (rd_T45 y357 0).f7, (rd_T45 y357 0).f8, wrap64 (4096 + (wrap64 (1 + (Go.bits .and .i64 a1 1023))))⟩ : S45) ) (fun _ hk => hk)
                                      have hx288_9 := hcc288 9 _ rfl
                                      (try simp only [show (k45).sz = 10 from rfl, Nat.mul_one, Nat.add_zero] at hx288_9)
                                      (try rw [show ((0 : Int)).toNat = 0 from rfl] at hx288_9)
                                      (try simp only [Nat.reduceMul, Nat.zero_mul, Nat.zero_add, Nat.reduceAdd] at hx288_9)
                                      have hf288_9 := hfr288 9
                                      (try simp only [show (k45).sz = 10 from rfl, Nat.mul_one, Nat.add_zero] at hf288_9)
                                      (try rw [show ((0 : Int)).toNat = 0 from rfl] at hf288_9)
                                      (try simp only [Nat.reduceMul, Nat.zero_mul, Nat.zero_add, Nat.reduceAdd] at hf288_9)
                                      clear hcl288 hcc288 hfr288 hM288
                                      go_wp2_with (first | ((with_reducible refine gate_store (t := 3) (p := 139) rfl ?_); refine store_event (t := 3) (p := 139) (v := ?vo_w289) (w1 := (w20.setCell ⟨go275, 9, none⟩ (.int .i64 (wrap64 (4096 + (wrap64 (1 + (Go.bits .and .i64 a1 1023)))))))) ?hg ?ho ?hn ?hr ?_; (case ho => rfl); (case hg => rfl); (case hn => rfl); (case hr => first | (go_simp; done) | (go_simp; rfl)); intro w289 hw; have hg : w20.grownBy w289 (some go275) := (by rw [hw]; exact HP288.2); have hp_ : Kd.R k45 45 w289 w.heap.size (fun _ => True) (.slice (some ⟨go275, 0, none⟩) y357.length co16) y390 := (by rw [hw, Ny390.out]; exact HP288.1); clear HP288; have n0_ := Aside0.mk (Kd.R_over' (v := (.slice (some ⟨go275, 0, none⟩) y357.length co16)) (by (with_reducible repeat (first | apply Kd.R_alloc | apply Kd.R_drewN | apply Kd.R_drew)); exact HO356.out) (Kd.R_typed HO359.out) (by decide) hg); have n1_ := Aside0.mk (hp_); have n2_ := Aside0.mk (blk_grown (g := gb360) (o := .cells #[.slice Ao17 y354.length co17, .slice (some ⟨go275, 0, none⟩) y357.length co16] 25 (0, 0)) (by (with_reducible repeat (first | refine blk_drewN ?_ _ | refine blk_drew ?_ | refine blk_alloc ?_ _)); exact BK360.out) hg (Kd.R_ne HO359.out BK360.out (by decide))); have n3_ := Aside0.mk ((by rw [hw]; exact below_set (HB.out) GB275.out : Below w.heap.size w w289)); clear HO356; clear HO359; clear BK360; clear HB; have HO356 := n0_; have HO359 := n1_; have BK360 := n2_; have HB := n3_; clear n0_ n1_ n2_ n3_; clear hg hw hp_; have hcz290_0 : w289.cell? ⟨gb360, 0, none⟩ = some (.slice Ao17 y354.length co17) := (blk_cell BK360.out 0).trans rfl; have hcz290_1 : w289.cell? ⟨gb360, 1, none⟩ = some (.slice (some ⟨go275, 0, none⟩) y357.length co16) := (blk_cell BK360.out 1).trans rfl; have hfz290_0 := blk_frozen BK360.out 0; have hfz290_1 := blk_frozen BK360.out 1) | ((with_reducible refine gate_callee (f := 20) rfl ?_); refine goesL_ (some 165) rfl rfl Tryd.func20 (by kernel_rfl) rfl #[.agg #[.slice Ao17 y354.length co17, .slice (some ⟨go275, 0, none⟩) y390.length co16]] rfl (by (try simp only [List.map_toArray, List.map_cons, List.map_nil]); first | done | (rw [show y390.length = y357.length from (Kd.R_reads' HO359.out).1.symm] <;> rfl) | rfl | (simp only [List.length_drop, List.length_take]; rfl)) ?_; (with_reducible refine (tree_May.calls k _ _ y354 _ _ y390 t391 _ ?side1 ?side2 ?side3 ?side4 A276.out).mono ?_); (case side1 => repeat (first | (with_reducible refine Kd.C_alloc ?_ _) | (with_reducible refine Kd.C_drewN ?_ _) | (with_reducible refine Kd.C_drew ?_) | exact (Kd.R_reads' HO356.out).2.2)); (case side2 => exact (Kd.R_reads' HO356.out).2.1); (case side3 => repeat (first | (with_reducible refine Kd.C_alloc ?_ _) | (with_reducible refine Kd.C_drewN ?_ _) | (with_reducible refine Kd.C_drew ?_) | exact (Kd.R_reads' HO359.out).2.2)); (case side4 => rw [show y390.length = y357.length from (Kd.R_reads' HO359.out).1.symm]; exact (Kd.R_reads' HO359.out).2.1); rintro e w291 ⟨rfl, hb⟩; refine ⟨_, rfl, ?_⟩; have n0_ := Aside0.mk (Kd.R_below (by (with_reducible repeat (first | apply Kd.R_alloc | apply Kd.R_drewN | apply Kd.R_drew)); exact HO356.out) hb); have n1_ := Aside0.mk (Kd.R_below (by (with_reducible repeat (first | apply Kd.R_alloc | apply Kd.R_drewN | apply Kd.R_drew)); exact HO359.out) hb); have n2_ := Aside0.mk (blk_below (g := gb360) (o := .cells #[.slice Ao17 y354.length co17, .slice (some ⟨go275, 0, none⟩) y357.length co16] 25 (0, 0)) (by (with_reducible repeat (first | refine blk_drewN ?_ _ | refine blk_drew ?_ | refine blk_alloc ?_ _)); exact BK360.out) hb); have n3_ := Aside0.mk (below_step (by repeat (first | (with_reducible first | exact HB.out | apply below_alloc | apply pw_below_drewN | apply below_drew1 | refine below_set ?_ GE360.out) | exact HB.out)) hb); clear HO356; clear HO359; clear BK360; clear HB; have HO356 := n0_; have HO359 := n1_; have BK360 := n2_; have HB := n3_; clear n0_ n1_ n2_ n3_; (try clear hb); (try clear hb2); (try clear hk); (try clear hi)))
                                      go_ret
                                      exact ⟨by first | rfl | (simp [errW_none, errW_some] <;> rfl) | (simp [*, errW_none, errW_some] <;> rfl), by repeat (first | (with_reducible first | exact HB.out | apply below_alloc | apply pw_below_drewN | apply below_drew1 | refine below_set ?_ GE360.out) | exact HB.out)⟩
                                    · rw [if_neg c274] at H
                                      exact absurd H (by simp)
                                  · rw [if_neg c273] at H
                                    have c273b0 : ((Int.tmod (IntKind.u64.wrap (a0)) 20) == 14) = false := beq_eq_false_iff_ne.mpr c273
                                    have c273b1 : ((Int.tmod (IntKind.u64.wrap (a0)) 20) != 14) = true := bne_iff_ne.mpr c273
                                    by_cases c292 : (Int.tmod (IntKind.u64.wrap (a0)) 20) = 15
                                    · rw [if_pos c292] at H
                                      have c292b0 : ((Int.tmod (IntKind.u64.wrap (a0)) 20) == 15) = true := beq_iff_eq.mpr c292
                                      have c292b1 : ((Int.tmod (IntKind.u64.wrap (a0)) 20) != 15) = false := bne_eq_false_iff_eq.mpr c292
                                      clear c292
                                      by_cases c293 : 0 < (y354.length : Int)
                                      · rw [if_pos c293] at H
                                        have c293b0 : decide (0 < (y354.length : Int)) = true := decide_eq_true c293
                                        have c293b1 : decide (0 < y354.length) = true := decide_eq_true (by omega)
                                        clear c293
                                        obtain ⟨y392, hy392⟩ : ∃ y_ : List (S48), y_ = (y354.set (0 : Int).toNat (⟨(⟨#[97, 32, 98]⟩ : ByteArray), (rd_T48 y354 0).f1, (rd_T48 y354 0).f2⟩ : S48)) := ⟨_, rfl⟩
                                        first | rw [Option.bind_some, ← hy392] at H | rw [← hy392] at H
                                        (try dsimp only at H)
                                        have Ny392 := Aside0.mk hy392
                                        clear hy392
                                        replace H := Option.bind_eq_some_iff.mp H
                                        obtain ⟨t393, A2950, H⟩ := H
                                        (try dsimp only at H)
                                        have A295 := Aside0.mk A2950
                                        clear A2950
                                        obtain rfl := Option.some.inj H
                                        have hcz306_0 : w20.cell? ⟨gb360, 0, none⟩ = some (.slice Ao17 y354.length co17) := (blk_cell BK360.out 0).trans rfl
                                        have hcz306_1 : w20.cell? ⟨gb360, 1, none⟩ = some (.slice Ao16 y357.length co16) := (blk_cell BK360.out 1).trans rfl
                                        have hfz306_0 := blk_frozen BK360.out 0
                                        have hfz306_1 := blk_frozen BK360.out 1
                                        have p294 : 0 ≤ (0 : Int) := (by omega)
                                        have q294 : (0 : Int) < ((y354.length : Int) : Int) := of_decide_eq_true (by first | (with_reducible assumption) | assumption)
                                        have qi294 : (0 < y354.length) = True := eq_true (by omega)
                                        obtain ⟨go294, co294, eo294, gb294, gl294, cl294, HG294⟩ := Kd.R_form HO356.out (by omega)
                                        (first | cases eo294 | (injection eo294 with ea_ en_ ec_; (first | subst ea_ | (injection ea_ with ea_; subst ea_)); subst ec_; clear en_))
                                        have GB294 := Aside0.mk gb294
                                        have GG294 := Aside0.mk HG294
                                        clear gb294 gl294 HG294
                                        obtain ⟨ce294, hcl294, hM294, hcc294, hfr294⟩ := Kd.R_elem HO356.out z48 (0 : Int) p294 q294
                                        obtain rfl := k48_openM hM294
                                        have hx294_0 : w20.cell? ⟨go294, (0 : Int).toNat * 3, none⟩ = some (.string ((rd_T48 y354 0).f0)) := hcc294 0 _ rfl
                                        have hx294_1 : w20.cell? ⟨go294, (0 : Int).toNat * 3 + 1, none⟩ = some (.int .i64 ((rd_T48 y354 0).f1)) := hcc294 1 _ rfl
                                        have hx294_2 : w20.cell? ⟨go294, (0 : Int).toNat * 3 + 2, none⟩ = some (.int .i64 ((rd_T48 y354 0).f2)) := hcc294 2 _ rfl
                                        have hf294_0 : w20.frozen? ⟨go294, (0 : Int).toNat * 3, none⟩ = false := hfr294 0
                                        have hf294_1 : w20.frozen? ⟨go294, (0 : Int).toNat * 3 + 1, none⟩ = false := hfr294 1
                                        have hf294_2 : w20.frozen? ⟨go294, (0 : Int).toNat * 3 + 2, none⟩ = false := hfr294 2
                                        clear hcl294 hcc294 hfr294 hM294
                                        (try rw [show ((0 : Int)).toNat = 0 from rfl] at hx294_0)
                                        (try simp only [Nat.reduceMul, Nat.zero_mul, Nat.zero_add, Nat.reduceAdd] at hx294_0)
                                        (try rw [show ((0 : Int)).toNat = 0 from rfl] at hf294_0)
                                        (try simp only [Nat.reduceMul, Nat.zero_mul, Nat.zero_add, Nat.reduceAdd] at hf294_0)
                                        (try rw [show ((0 : Int)).toNat = 0 from rfl] at hx294_1)
                                        (try simp only [Nat.reduceMul, Nat.zero_mul, Nat.zero_add, Nat.reduceAdd] at hx294_1)
                                        (try rw [show ((0 : Int)).toNat = 0 from rfl] at hf294_1)
                                        (try simp only [Nat.reduceMul, Nat.zero_mul, Nat.zero_add, Nat.reduceAdd] at hf294_1)
                                        (try rw [show ((0 : Int)).toNat = 0 from rfl] at hx294_2)
                                        (try simp only [Nat.reduceMul, Nat.zero_mul, Nat.zero_add, Nat.reduceAdd] at hx294_2)
                                        (try rw [show ((0 : Int)).toNat = 0 from rfl] at hf294_2)
                                        (try simp only [Nat.reduceMul, Nat.zero_mul, Nat.zero_add, Nat.reduceAdd] at hf294_2)
                                        replace p294 := eq_true p294
                                        replace q294 := eq_true q294
                                        have HX307 := Aside0.mk (show Kd.R k48 48 w20 w.heap.size (fun _ => True) (.slice (some ⟨go294, 0, none⟩) y354.length co17) y354 from (by (with_reducible repeat (first | apply Kd.R_alloc | apply Kd.R_drewN | apply Kd.R_drew)); exact HO356.out))
                                        obtain ⟨ce307, hcl307, hM307, hcc307, hfr307⟩ := Kd.R_elem HX307.out z48 (0 : Int) (by omega) (by have h_ : (0 : Int) < ((y354.length : Int) : Int) := of_decide_eq_true (by first | (with_reducible assumption) | assumption); first | exact h_ | (have e_ := (Kd.R_reads' HO356.out).1; omega) | simpa using h_)
                                        obtain rfl := k48_openM hM307
                                        have HP307 := Kd.R_seg HX307.out (0 : Int) (by omega) (by have h_ : (0 : Int) < ((y354.length : Int) : Int) := of_decide_eq_true (by first | (with_reducible assumption) | assumption); first | exact h_ | (have e_ := (Kd.R_reads' HO356.out).1; omega) | simpa using h_) (seg := [.string (⟨#[97, 32, 98]⟩ : ByteArray)]) (j := 0) hcl307 hcc307 (show 1 ≤ 3 from by decide) (x' := (⟨(⟨#[97, 32, 98]⟩ : ByteArray), (rd_T48 y354 0).f1, (rd_T48 y354 0).f2⟩ : S48)) (k48_mkM _ _ _ (⟨(⟨#[97, 32, 98]⟩ : ByteArray), (rd_T48 y354 0).f1, (rd_T48 y354 0).f2⟩ : S48) ) (fun _ hk => hk)
                                        have hx307_0 := hcc307 0 _ rfl
                                        (try simp only [show (k48).sz = 3 from rfl, Nat.mul_one, Nat.add_zero] at hx307_0)
                                        (try rw [show ((0 : Int)).toNat = 0 from rfl] at hx307_0)
                                        (try simp only [Nat.reduceMul, Nat.zero_mul, Nat.zero_add, Nat.reduceAdd] at hx307_0)
                                        have hf307_0 := hfr307 0
                                        (try simp only [show (k48).sz = 3 from rfl, Nat.mul_one, Nat.add_zero] at hf307_0)
                                        (try rw [show ((0 : Int)).toNat = 0 from rfl] at hf307_0)
                                        (try simp only [Nat.reduceMul, Nat.zero_mul, Nat.zero_add, Nat.reduceAdd] at hf307_0)
                                        clear hcl307 hcc307 hfr307 hM307
                                        go_wp2_with (first | ((with_reducible refine gate_store (t := 9) (p := 145) rfl ?_); refine store_event (t := 9) (p := 145) (v := ?vo_w308) (w1 := (w20.setCell ⟨go294, 0, none⟩ (.string (⟨#[97, 32, 98]⟩ : ByteArray)))) ?hg ?ho ?hn ?hr ?_; (case ho => rfl); (case hg => rfl); (case hn => rfl); (case hr => first | (go_simp; done) | (go_simp; rfl)); intro w308 hw; have hg : w20.grownBy w308 (some go294) := (by rw [hw]; exact HP307.2); have hp_ : Kd.R k48 48 w308 w.heap.size (fun _ => True) (.slice (some ⟨go294, 0, none⟩) y354.length co17) y392 := (by rw [hw, Ny392.out]; exact HP307.1); clear HP307; have n0_ := Aside0.mk (hp_); have n1_ := Aside0.mk (Kd.R_over' (v := (.slice (some ⟨go294, 0, none⟩) y354.length co17)) (by (with_reducible repeat (first | apply Kd.R_alloc | apply Kd.R_drewN | apply Kd.R_drew)); exact HO359.out) (Kd.R_typed HO356.out) (by decide) hg); have n2_ := Aside0.mk (blk_grown (g := gb360) (o := .cells #[.slice (some ⟨go294, 0, none⟩) y354.length co17, .slice Ao16 y357.length co16] 25 (0, 0)) (by (with_reducible repeat (first | refine blk_drewN ?_ _ | refine blk_drew ?_ | refine blk_alloc ?_ _)); exact BK360.out) hg (Kd.R_ne HO356.out BK360.out (by decide))); have n3_ := Aside0.mk ((by rw [hw]; exact below_set (HB.out) GB294.out : Below w.heap.size w w308)); clear HO356; clear HO359; clear BK360; clear HB; have HO356 := n0_; have HO359 := n1_; have BK360 := n2_; have HB := n3_; clear n0_ n1_ n2_ n3_; clear hg hw hp_; have hcz309_0 : w308.cell? ⟨gb360, 0, none⟩ = some (.slice (some ⟨go294, 0, none⟩) y354.length co17) := (blk_cell BK360.out 0).trans rfl; have hcz309_1 : w308.cell? ⟨gb360, 1, none⟩ = some (.slice Ao16 y357.length co16) := (blk_cell BK360.out 1).trans rfl; have hfz309_0 := blk_frozen BK360.out 0; have hfz309_1 := blk_frozen BK360.out 1) | ((with_reducible refine gate_callee (f := 20) rfl ?_); refine goesL_ (some 165) rfl rfl Tryd.func20 (by kernel_rfl) rfl #[.agg #[.slice (some ⟨go294, 0, none⟩) y392.length co17, .slice Ao16 y357.length co16]] rfl (by (try simp only [List.map_toArray, List.map_cons, List.map_nil]); first | done | (rw [show y392.length = y354.length from (Kd.R_reads' HO356.out).1.symm] <;> rfl) | rfl | (simp only [List.length_drop, List.length_take]; rfl)) ?_; (with_reducible refine (tree_May.calls k _ _ y392 _ _ y357 t393 _ ?side1 ?side2 ?side3 ?side4 A295.out).mono ?_); (case side1 => repeat (first | (with_reducible refine Kd.C_alloc ?_ _) | (with_reducible refine Kd.C_drewN ?_ _) | (with_reducible refine Kd.C_drew ?_) | exact (Kd.R_reads' HO356.out).2.2)); (case side2 => rw [show y392.length = y354.length from (Kd.R_reads' HO356.out).1.symm]; exact (Kd.R_reads' HO356.out).2.1); (case side3 => repeat (first | (with_reducible refine Kd.C_alloc ?_ _) | (with_reducible refine Kd.C_drewN ?_ _) | (with_reducible refine Kd.C_drew ?_) | exact (Kd.R_reads' HO359.out).2.2)); (case side4 => exact (Kd.R_reads' HO359.out).2.1); rintro e w310 ⟨rfl, hb⟩; refine ⟨_, rfl, ?_⟩; have n0_ := Aside0.mk (Kd.R_below (by (with_reducible repeat (first | apply Kd.R_alloc | apply Kd.R_drewN | apply Kd.R_drew)); exact HO356.out) hb); have n1_ := Aside0.mk (Kd.R_below (by (with_reducible repeat (first | apply Kd.R_alloc | apply Kd.R_drewN | apply Kd.R_drew)); exact HO359.out) hb); have n2_ := Aside0.mk (blk_below (g := gb360) (o := .cells #[.slice (some ⟨go294, 0, none⟩) y354.length co17, .slice Ao16 y357.length co16] 25 (0, 0)) (by (with_reducible repeat (first | refine blk_drewN ?_ _ | refine blk_drew ?_ | refine blk_alloc ?_ _)); exact BK360.out) hb); have n3_ := Aside0.mk (below_step (by repeat (first | (with_reducible first | exact HB.out | apply below_alloc | apply pw_below_drewN | apply below_drew1 | refine below_set ?_ GE360.out) | exact HB.out)) hb); clear HO356; clear HO359; clear BK360; clear HB; have HO356 := n0_; have HO359 := n1_; have BK360 := n2_; have HB := n3_; clear n0_ n1_ n2_ n3_; (try clear hb); (try clear hb2); (try clear hk); (try clear hi)))
                                        go_ret
                                        exact ⟨by first | rfl | (simp [errW_none, errW_some] <;> rfl) | (simp [*, errW_none, errW_some] <;> rfl), by repeat (first | (with_reducible first | exact HB.out | apply below_alloc | apply pw_below_drewN | apply below_drew1 | refine below_set ?_ GE360.out) | exact HB.out)⟩
                                      · rw [if_neg c293] at H
                                        exact absurd H (by simp)
                                    · rw [if_neg c292] at H
                                      have c292b0 : ((Int.tmod (IntKind.u64.wrap (a0)) 20) == 15) = false := beq_eq_false_iff_ne.mpr c292
                                      have c292b1 : ((Int.tmod (IntKind.u64.wrap (a0)) 20) != 15) = true := bne_iff_ne.mpr c292
                                      by_cases c311 : (Int.tmod (IntKind.u64.wrap (a0)) 20) = 16
                                      · rw [if_pos c311] at H
                                        have c311b0 : ((Int.tmod (IntKind.u64.wrap (a0)) 20) == 16) = true := beq_iff_eq.mpr c311
                                        have c311b1 : ((Int.tmod (IntKind.u64.wrap (a0)) 20) != 16) = false := bne_eq_false_iff_eq.mpr c311
                                        clear c311
                                        by_cases c312 : 0 < (y354.length : Int)
                                        · rw [if_pos c312] at H
                                          have c312b0 : decide (0 < (y354.length : Int)) = true := decide_eq_true c312
                                          have c312b1 : decide (0 < y354.length) = true := decide_eq_true (by omega)
                                          clear c312
                                          obtain ⟨y394, hy394⟩ : ∃ y_ : List (S48), y_ = (y354.set (0 : Int).toNat (⟨(rd_T48 y354 0).f0, (rd_T48 y354 0).f1, 2⟩ : S48)) := ⟨_, rfl⟩
                                          first | rw [Option.bind_some, ← hy394] at H | rw [← hy394] at H
                                          (try dsimp only at H)
                                          have Ny394 := Aside0.mk hy394
                                          clear hy394
                                          replace H := Option.bind_eq_some_iff.mp H
                                          obtain ⟨t395, A3140, H⟩ := H
                                          (try dsimp only at H)
                                          have A314 := Aside0.mk A3140
                                          clear A3140
                                          obtain rfl := Option.some.inj H
                                          have hcz325_0 : w20.cell? ⟨gb360, 0, none⟩ = some (.slice Ao17 y354.length co17) := (blk_cell BK360.out 0).trans rfl
                                          have hcz325_1 : w20.cell? ⟨gb360, 1, none⟩ = some (.slice Ao16 y357.length co16) := (blk_cell BK360.out 1).trans rfl
                                          have hfz325_0 := blk_frozen BK360.out 0
                                          have hfz325_1 := blk_frozen BK360.out 1
                                          have p313 : 0 ≤ (0 : Int) := (by omega)
                                          have q313 : (0 : Int) < ((y354.length : Int) : Int) := of_decide_eq_true (by first | (with_reducible assumption) | assumption)
                                          have qi313 : (0 < y354.length) = True := eq_true (by omega)
                                          obtain ⟨go313, co313, eo313, gb313, gl313, cl313, HG313⟩ := Kd.R_form HO356.out (by omega)
                                          (first | cases eo313 | (injection eo313 with ea_ en_ ec_; (first | subst ea_ | (injection ea_ with ea_; subst ea_)); subst ec_; clear en_))
                                          have GB313 := Aside0.mk gb313
                                          have GG313 := Aside0.mk HG313
                                          clear gb313 gl313 HG313
                                          obtain ⟨ce313, hcl313, hM313, hcc313, hfr313⟩ := Kd.R_elem HO356.out z48 (0 : Int) p313 q313
                                          obtain rfl := k48_openM hM313
                                          have hx313_0 : w20.cell? ⟨go313, (0 : Int).toNat * 3, none⟩ = some (.string ((rd_T48 y354 0).f0)) := hcc313 0 _ rfl
                                          have hx313_1 : w20.cell? ⟨go313, (0 : Int).toNat * 3 + 1, none⟩ = some (.int .i64 ((rd_T48 y354 0).f1)) := hcc313 1 _ rfl
                                          have hx313_2 : w20.cell? ⟨go313, (0 : Int).toNat * 3 + 2, none⟩ = some (.int .i64 ((rd_T48 y354 0).f2)) := hcc313 2 _ rfl
                                          have hf313_0 : w20.frozen? ⟨go313, (0 : Int).toNat * 3, none⟩ = false := hfr313 0
                                          have hf313_1 : w20.frozen? ⟨go313, (0 : Int).toNat * 3 + 1, none⟩ = false := hfr313 1
                                          have hf313_2 : w20.frozen? ⟨go313, (0 : Int).toNat * 3 + 2, none⟩ = false := hfr313 2
                                          clear hcl313 hcc313 hfr313 hM313
                                          (try rw [show ((0 : Int)).toNat = 0 from rfl] at hx313_0)
                                          (try simp only [Nat.reduceMul, Nat.zero_mul, Nat.zero_add, Nat.reduceAdd] at hx313_0)
                                          (try rw [show ((0 : Int)).toNat = 0 from rfl] at hf313_0)
                                          (try simp only [Nat.reduceMul, Nat.zero_mul, Nat.zero_add, Nat.reduceAdd] at hf313_0)
                                          (try rw [show ((0 : Int)).toNat = 0 from rfl] at hx313_1)
                                          (try simp only [Nat.reduceMul, Nat.zero_mul, Nat.zero_add, Nat.reduceAdd] at hx313_1)
                                          (try rw [show ((0 : Int)).toNat = 0 from rfl] at hf313_1)
                                          (try simp only [Nat.reduceMul, Nat.zero_mul, Nat.zero_add, Nat.reduceAdd] at hf313_1)
                                          (try rw [show ((0 : Int)).toNat = 0 from rfl] at hx313_2)
                                          (try simp only [Nat.reduceMul, Nat.zero_mul, Nat.zero_add, Nat.reduceAdd] at hx313_2)
                                          (try rw [show ((0 : Int)).toNat = 0 from rfl] at hf313_2)
                                          (try simp only [Nat.reduceMul, Nat.zero_mul, Nat.zero_add, Nat.reduceAdd] at hf313_2)
                                          replace p313 := eq_true p313
                                          replace q313 := eq_true q313
                                          have HX326 := Aside0.mk (show Kd.R k48 48 w20 w.heap.size (fun _ => True) (.slice (some ⟨go313, 0, none⟩) y354.length co17) y354 from (by (with_reducible repeat (first | apply Kd.R_alloc | apply Kd.R_drewN | apply Kd.R_drew)); exact HO356.out))
                                          obtain ⟨ce326, hcl326, hM326, hcc326, hfr326⟩ := Kd.R_elem HX326.out z48 (0 : Int) (by omega) (by have h_ : (0 : Int) < ((y354.length : Int) : Int) := of_decide_eq_true (by first | (with_reducible assumption) | assumption); first | exact h_ | (have e_ := (Kd.R_reads' HO356.out).1; omega) | simpa using h_)
                                          obtain rfl := k48_openM hM326
                                          have HP326 := Kd.R_seg HX326.out (0 : Int) (by omega) (by have h_ : (0 : Int) < ((y354.length : Int) : Int) := of_decide_eq_true (by first | (with_reducible assumption) | assumption); first | exact h_ | (have e_ := (Kd.R_reads' HO356.out).1; omega) | simpa using h_) (seg := [.int .i64 2]) (j := 2) hcl326 hcc326 (show 3 ≤ 3 from by decide) (x' := (⟨(rd_T48 y354 0).f0, (rd_T48 y354 0).f1, 2⟩ : S48)) (k48_mkM _ _ _ (⟨(rd_T48 y354 0).f0, (rd_T48 y354 0).f1, 2⟩ : S48) ) (fun _ hk => hk)
                                          have hx326_2 := hcc326 2 _ rfl
                                          (try simp only [show (k48).sz = 3 from rfl, Nat.mul_one, Nat.add_zero] at hx326_2)
                                          (try rw [show ((0 : Int)).toNat = 0 from rfl] at hx326_2)
                                          (try simp only [Nat.reduceMul, Nat.zero_mul, Nat.zero_add, Nat.reduceAdd] at hx326_2)
                                          have hf326_2 := hfr326 2
                                          (try simp only [show (k48).sz = 3 from rfl, Nat.mul_one, Nat.add_zero] at hf326_2)
                                          (try rw [show ((0 : Int)).toNat = 0 from rfl] at hf326_2)
                                          (try simp only [Nat.reduceMul, Nat.zero_mul, Nat.zero_add, Nat.reduceAdd] at hf326_2)
                                          clear hcl326 hcc326 hfr326 hM326
                                          go_wp2_with (first | ((with_reducible refine gate_store (t := 3) (p := 151) rfl ?_); refine store_event (t := 3) (p := 151) (v := ?vo_w327) (w1 := (w20.setCell ⟨go313, 2, none⟩ (.int .i64 2))) ?hg ?ho ?hn ?hr ?_; (case ho => rfl); (case hg => rfl); (case hn => rfl); (case hr => first | (go_simp; done) | (go_simp; rfl)); intro w327 hw; have hg : w20.grownBy w327 (some go313) := (by rw [hw]; exact HP326.2); have hp_ : Kd.R k48 48 w327 w.heap.size (fun _ => True) (.slice (some ⟨go313, 0, none⟩) y354.length co17) y394 := (by rw [hw, Ny394.out]; exact HP326.1); clear HP326; have n0_ := Aside0.mk (hp_); have n1_ := Aside0.mk (Kd.R_over' (v := (.slice (some ⟨go313, 0, none⟩) y354.length co17)) (by (with_reducible repeat (first | apply Kd.R_alloc | apply Kd.R_drewN | apply Kd.R_drew)); exact HO359.out) (Kd.R_typed HO356.out) (by decide) hg); have n2_ := Aside0.mk (blk_grown (g := gb360) (o := .cells #[.slice (some ⟨go313, 0, none⟩) y354.length co17, .slice Ao16 y357.length co16] 25 (0, 0)) (by (with_reducible repeat (first | refine blk_drewN ?_ _ | refine blk_drew ?_ | refine blk_alloc ?_ _)); exact BK360.out) hg (Kd.R_ne HO356.out BK360.out (by decide))); have n3_ := Aside0.mk ((by rw [hw]; exact below_set (HB.out) GB313.out : Below w.heap.size w w327)); clear HO356; clear HO359; clear BK360; clear HB; have HO356 := n0_; have HO359 := n1_; have BK360 := n2_; have HB := n3_; clear n0_ n1_ n2_ n3_; clear hg hw hp_; have hcz328_0 : w327.cell? ⟨gb360, 0, none⟩ = some (.slice (some ⟨go313, 0, none⟩) y354.length co17) := (blk_cell BK360.out 0).trans rfl; have hcz328_1 : w327.cell? ⟨gb360, 1, none⟩ = some (.slice Ao16 y357.length co16) := (blk_cell BK360.out 1).trans rfl; have hfz328_0 := blk_frozen BK360.out 0; have hfz328_1 := blk_frozen BK360.out 1) | ((with_reducible refine gate_callee (f := 20) rfl ?_); refine goesL_ (some 165) rfl rfl Tryd.func20 (by kernel_rfl) rfl #[.agg #[.slice (some ⟨go313, 0, none⟩) y394.length co17, .slice Ao16 y357.length co16]] rfl (by (try simp only [List.map_toArray, List.map_cons, List.map_nil]); first | done | (rw [show y394.length = y354.length from (Kd.R_reads' HO356.out).1.symm] <;> rfl) | rfl | (simp only [List.length_drop, List.length_take]; rfl)) ?_; (with_reducible refine (tree_May.calls k _ _ y394 _ _ y357 t395 _ ?side1 ?side2 ?side3 ?side4 A314.out).mono ?_); (case side1 => repeat (first | (with_reducible refine Kd.C_alloc ?_ _) | (with_reducible refine Kd.C_drewN ?_ _) | (with_reducible refine Kd.C_drew ?_) | exact (Kd.R_reads' HO356.out).2.2)); (case side2 => rw [show y394.length = y354.length from (Kd.R_reads' HO356.out).1.symm]; exact (Kd.R_reads' HO356.out).2.1); (case side3 => repeat (first | (with_reducible refine Kd.C_alloc ?_ _) | (with_reducible refine Kd.C_drewN ?_ _) | (with_reducible refine Kd.C_drew ?_) | exact (Kd.R_reads' HO359.out).2.2)); (case side4 => exact (Kd.R_reads' HO359.out).2.1); rintro e w329 ⟨rfl, hb⟩; refine ⟨_, rfl, ?_⟩; have n0_ := Aside0.mk (Kd.R_below (by (with_reducible repeat (first | apply Kd.R_alloc | apply Kd.R_drewN | apply Kd.R_drew)); exact HO356.out) hb); have n1_ := Aside0.mk (Kd.R_below (by (with_reducible repeat (first | apply Kd.R_alloc | apply Kd.R_drewN | apply Kd.R_drew)); exact HO359.out) hb); have n2_ := Aside0.mk (blk_below (g := gb360) (o := .cells #[.slice (some ⟨go313, 0, none⟩) y354.length co17, .slice Ao16 y357.length co16] 25 (0, 0)) (by (with_reducible repeat (first | refine blk_drewN ?_ _ | refine blk_drew ?_ | refine blk_alloc ?_ _)); exact BK360.out) hb); have n3_ := Aside0.mk (below_step (by repeat (first | (with_reducible first | exact HB.out | apply below_alloc | apply pw_below_drewN | apply below_drew1 | refine below_set ?_ GE360.out) | exact HB.out)) hb); clear HO356; clear HO359; clear BK360; clear HB; have HO356 := n0_; have HO359 := n1_; have BK360 := n2_; have HB := n3_; clear n0_ n1_ n2_ n3_; (try clear hb); (try clear hb2); (try clear hk); (try clear hi)))
                                          go_ret
                                          exact ⟨by first | rfl | (simp [errW_none, errW_some] <;> rfl) | (simp [*, errW_none, errW_some] <;> rfl), by repeat (first | (with_reducible first | exact HB.out | apply below_alloc | apply pw_below_drewN | apply below_drew1 | refine below_set ?_ GE360.out) | exact HB.out)⟩
                                        · rw [if_neg c312] at H
                                          exact absurd H (by simp)
                                      · rw [if_neg c311] at H
                                        have c311b0 : ((Int.tmod (IntKind.u64.wrap (a0)) 20) == 16) = false := beq_eq_false_iff_ne.mpr c311
                                        have c311b1 : ((Int.tmod (IntKind.u64.wrap (a0)) 20) != 16) = true := bne_iff_ne.mpr c311
                                        by_cases c330 : (Int.tmod (IntKind.u64.wrap (a0)) 20) = 17
                                        · rw [if_pos c330] at H
                                          have c330b0 : ((Int.tmod (IntKind.u64.wrap (a0)) 20) == 17) = true := beq_iff_eq.mpr c330
                                          have c330b1 : ((Int.tmod (IntKind.u64.wrap (a0)) 20) != 17) = false := bne_eq_false_iff_eq.mpr c330
                                          clear c330
                                          obtain ⟨ji331, hji331⟩ : ∃ j_ : Int, (wrap64 (4 + (wrap64 (1 + (Go.bits .and .i64 a1 1023))))) = j_ := ⟨_, rfl⟩
                                          replace H : (if 0 ≤ (ji331) then (if (ji331 : Int).toNat ≤ 8796093022208 then ((tree_May.f k (List.replicate (ji331 : Int).toNat z48) y357).bind fun t399 => (some (!t399))) else (none)) else (none)) = some r := by first | (rw [hji331] at H; exact H) | (simp only [hji331] at H ⊢; exact H)
                                          (try rw [hji331] at A3)
                                          (try rw [hji331] at A5)
                                          have hji331w : (IntKind.i64.wrap (4 + (wrap64 (1 + (Go.bits .and .i64 a1 1023))))) = ji331 := (i64_w _).trans hji331
                                          by_cases c332 : 0 ≤ (ji331)
                                          · rw [if_pos c332] at H
                                            have c332b0 := eq_true c332
                                            have c332b1 : decide (0 ≤ (ji331)) = true := decide_eq_true c332
                                            clear c332
                                            by_cases c333 : (ji331 : Int).toNat ≤ 8796093022208
                                            · rw [if_pos c333] at H
                                              have c333b0 := eq_true c333
                                              have c333b1 : decide ((ji331 : Int).toNat ≤ 8796093022208) = true := decide_eq_true c333
                                              clear c333
                                              obtain ⟨y396, hy396⟩ : ∃ y_ : List (S48), y_ = (List.replicate (ji331 : Int).toNat z48) := ⟨_, rfl⟩
                                              first | rw [Option.bind_some, ← hy396] at H | rw [← hy396] at H
                                              (try dsimp only at H)
                                              have Ny396 := Aside0.mk hy396
                                              clear hy396
                                              replace H := Option.bind_eq_some_iff.mp H
                                              obtain ⟨t399, A3340, H⟩ := H
                                              (try dsimp only at H)
                                              have A334 := Aside0.mk A3340
                                              clear A3340
                                              obtain rfl := Option.some.inj H
                                              go_wp2_with (first | ((with_reducible refine gate_dst (N := 156) rfl ?_); refine Kd.R_make k48 _ 48 rfl (N := 156) rfl 22 _ _ rfl ji331 rfl rfl Tryd.underlying22 (.agg #[(.string ⟨#[]⟩), (.int .i64 0), (.int .i64 0)]) 32 info48 rfl (by decide) (by omega) z48 (ok := fun _ => True) (okp := fun _ => True) (k48_mkM _ _ _ z48 ) (fun _ hk => hk) trivial (of_decide_eq_true (by first | (with_reducible assumption) | assumption)) (Nat.le_trans (Nat.mul_le_mul_right _ (of_decide_eq_true (by first | (with_reducible assumption) | assumption) : ji331.toNat ≤ 8796093022208)) (by omega)) (Below.refl _ _) (Nat.le_refl _) ?_; intro v397 w345 ho346 hb hg_ hnew_; clear hg_ hnew_; (first | rw [← Ny396.out] at ho346 | (simp only [Int.reduceToNat] at ho346; rw [← Ny396.out] at ho346)); have n0_ := Aside0.mk (Kd.R_elder' (by (with_reducible repeat (first | apply Kd.R_alloc | apply Kd.R_drewN | apply Kd.R_drew)); exact HO356.out) (Kd.R_base ho346) hb); have n1_ := Aside0.mk (Kd.R_below (by (with_reducible repeat (first | apply Kd.R_alloc | apply Kd.R_drewN | apply Kd.R_drew)); exact HO359.out) hb); have n2_ := Aside0.mk (Kd.R_lower (Kd.R_new' ho346 (Kd.R_lt (by (with_reducible repeat (first | apply Kd.R_alloc | apply Kd.R_drewN | apply Kd.R_drew)); exact HO356.out))) (below_size (by repeat (first | (with_reducible first | exact HB.out | apply below_alloc | apply pw_below_drewN | apply below_drew1 | refine below_set ?_ GE360.out) | exact HB.out)))); have n3_ := Aside0.mk (blk_below (g := gb360) (o := .cells #[.slice Ao17 y354.length co17, .slice Ao16 y357.length co16] 25 (0, 0)) (by (with_reducible repeat (first | refine blk_drewN ?_ _ | refine blk_drew ?_ | refine blk_alloc ?_ _)); exact BK360.out) hb); have n4_ := Aside0.mk (below_step (by repeat (first | (with_reducible first | exact HB.out | apply below_alloc | apply pw_below_drewN | apply below_drew1 | refine below_set ?_ GE360.out) | exact HB.out)) hb); clear HO356; clear HO359; clear BK360; clear HB; have HO356 := n0_; have HO359 := n1_; have HO398 := n2_; have BK360 := n3_; have HB := n4_; clear n0_ n1_ n2_ n3_ n4_; clear hb ho346; obtain ⟨Ao347, co347, eo347⟩ := Kd.R_slice HO398.out; subst eo347; have hcz348_0 : w345.cell? ⟨gb360, 0, none⟩ = some (.slice Ao17 y354.length co17) := (blk_cell BK360.out 0).trans rfl; have hcz348_1 : w345.cell? ⟨gb360, 1, none⟩ = some (.slice Ao16 y357.length co16) := (blk_cell BK360.out 1).trans rfl; have hfz348_0 := blk_frozen BK360.out 0; have hfz348_1 := blk_frozen BK360.out 1) | ((with_reducible refine gate_callee (f := 20) rfl ?_); refine goesL_ (some 165) rfl rfl Tryd.func20 (by kernel_rfl) rfl #[.agg #[.slice Ao347 y396.length co347, .slice Ao16 y357.length co16]] rfl (by (try simp only [List.map_toArray, List.map_cons, List.map_nil]); first | done | rfl | (simp only [List.length_drop, List.length_take]; rfl)) ?_; (with_reducible refine (tree_May.calls k _ _ y396 _ _ y357 t399 _ ?side1 ?side2 ?side3 ?side4 A334.out).mono ?_); (case side1 => refine (Kd.R_reads' (e := 48) (base := w.heap.size) (ok := fun k_ => (True ∧ some k_ ≠ (.slice Ao17 y354.length co17 : Value).ownBlock)) (n := y396.length) (c := co347) ?_).2.2; exact (by (with_reducible repeat (first | apply Kd.R_alloc | apply Kd.R_drewN | apply Kd.R_drew)); exact (Kd.R_mono (Kd.R_far (p := ⟨gb360, 0, none⟩) (Kd.R_types HO398.out BK360.out (by decide)) (fun _ hk => hk.2) (.slice Ao347 y396.length co347)) (fun _ h_ => h_.1)))); (case side2 => exact (Kd.R_reads' HO398.out).2.1); (case side3 => refine (Kd.R_reads' (e := 45) (base := w.heap.size) (ok := fun k_ => True) (n := y357.length) (c := co16) ?_).2.2; exact (by (with_reducible repeat (first | apply Kd.R_alloc | apply Kd.R_drewN | apply Kd.R_drew)); exact (Kd.R_mono (Kd.R_far (p := ⟨gb360, 0, none⟩) (Kd.R_types HO359.out BK360.out (by decide)) (fun _ hk => hk.2) (.slice Ao347 y396.length co347)) (fun _ h_ => h_.1)))); (case side4 => exact (Kd.R_reads' HO359.out).2.1); rintro e w349 ⟨rfl, hb⟩; refine ⟨_, rfl, ?_⟩; have n0_ := Aside0.mk (Kd.R_below (by (with_reducible repeat (first | apply Kd.R_alloc | apply Kd.R_drewN | apply Kd.R_drew)); exact (Kd.R_mono (Kd.R_far (p := ⟨gb360, 0, none⟩) (Kd.R_types HO356.out BK360.out (by decide)) (fun _ hk => hk.2) (.slice Ao347 y396.length co347)) (fun _ h_ => h_.1))) hb); have n1_ := Aside0.mk (Kd.R_below (by (with_reducible repeat (first | apply Kd.R_alloc | apply Kd.R_drewN | apply Kd.R_drew)); exact (Kd.R_mono (Kd.R_far (p := ⟨gb360, 0, none⟩) (Kd.R_types HO359.out BK360.out (by decide)) (fun _ hk => hk.2) (.slice Ao347 y396.length co347)) (fun _ h_ => h_.1))) hb); have n2_ := Aside0.mk (Kd.R_below (by (with_reducible repeat (first | apply Kd.R_alloc | apply Kd.R_drewN | apply Kd.R_drew)); exact (Kd.R_mono (Kd.R_far (p := ⟨gb360, 0, none⟩) (Kd.R_types HO398.out BK360.out (by decide)) (fun _ hk => hk.2) (.slice Ao347 y396.length co347)) (fun _ h_ => h_.1))) hb); have n3_ := Aside0.mk (blk_below (g := gb360) (o := .cells #[.slice Ao347 y396.length co347, .slice Ao16 y357.length co16] 25 (0, 0)) (by (with_reducible repeat (first | refine blk_drewN ?_ _ | refine blk_drew ?_ | refine blk_alloc ?_ _)); refine blk_put (cs := #[.slice Ao17 y354.length co17, .slice Ao16 y357.length co16]) ?_ 0 _ rfl; (with_reducible repeat (first | refine blk_drewN ?_ _ | refine blk_drew ?_ | refine blk_alloc ?_ _)); exact BK360.out) hb); have n4_ := Aside0.mk (below_step (by repeat (first | (with_reducible first | exact HB.out | apply below_alloc | apply pw_below_drewN | apply below_drew1 | refine below_set ?_ GE360.out) | exact HB.out)) hb); clear HO356; clear HO359; clear HO398; clear BK360; clear HB; have HO356 := n0_; have HO359 := n1_; have HO398 := n2_; have BK360 := n3_; have HB := n4_; clear n0_ n1_ n2_ n3_ n4_; (try clear hb); (try clear hb2); (try clear hk); (try clear hi)))
                                              go_ret
                                              exact ⟨by first | rfl | (simp [errW_none, errW_some] <;> rfl) | (simp only [← hji331]; first | rfl | (simp [errW_none, errW_some] <;> rfl)) | (simp [*, errW_none, errW_some] <;> rfl), by repeat (first | (with_reducible first | exact HB.out | apply below_alloc | apply pw_below_drewN | apply below_drew1 | refine below_set ?_ GE360.out) | exact HB.out)⟩
                                            · rw [if_neg c333] at H
                                              exact absurd H (by simp)
                                          · rw [if_neg c332] at H
                                            exact absurd H (by simp)
                                        · rw [if_neg c330] at H
                                          have c330b0 : ((Int.tmod (IntKind.u64.wrap (a0)) 20) == 17) = false := beq_eq_false_iff_ne.mpr c330
                                          have c330b1 : ((Int.tmod (IntKind.u64.wrap (a0)) 20) != 17) = true := bne_iff_ne.mpr c330
                                          by_cases c350 : (Int.tmod (IntKind.u64.wrap (a0)) 20) = 18
                                          · rw [if_pos c350] at H
                                            have c350b0 : ((Int.tmod (IntKind.u64.wrap (a0)) 20) == 18) = true := beq_iff_eq.mpr c350
                                            have c350b1 : ((Int.tmod (IntKind.u64.wrap (a0)) 20) != 18) = false := bne_eq_false_iff_eq.mpr c350
                                            clear c350
                                            by_cases c351 : 2 ≤ (y357.length : Int)
                                            · rw [if_pos c351] at H
                                              have c351b0 := eq_true c351
                                              have c351b1 : decide (2 ≤ (y357.length : Int)) = true := decide_eq_true c351
                                              clear c351
                                              obtain ⟨y400, hy400⟩ : ∃ y_ : List (S45), y_ = (y357.take (2 : Int).toNat) := ⟨_, rfl⟩
                                              first | rw [Option.bind_some, ← hy400] at H | rw [← hy400] at H
                                              (try dsimp only at H)
                                              have Ny400 := Aside0.mk hy400
                                              clear hy400
                                              replace H := Option.bind_eq_some_iff.mp H
                                              obtain ⟨t403, A3520, H⟩ := H
                                              (try dsimp only at H)
                                              have A352 := Aside0.mk A3520
                                              clear A3520
                                              obtain rfl := Option.some.inj H
                                              have hcz363_0 : w20.cell? ⟨gb360, 0, none⟩ = some (.slice Ao17 y354.length co17) := (blk_cell BK360.out 0).trans rfl
                                              have hcz363_1 : w20.cell? ⟨gb360, 1, none⟩ = some (.slice Ao16 y357.length co16) := (blk_cell BK360.out 1).trans rfl
                                              have hfz363_0 := blk_frozen BK360.out 0
                                              have hfz363_1 := blk_frozen BK360.out 1
                                              have q364 : (2 : Int) ≤ ((y357.length : Int) : Int) := of_decide_eq_true (by first | (with_reducible assumption) | assumption)
                                              obtain ⟨i0364, hi0364, _, hsz364, _⟩ := info_parts info45
                                              have hcut364 := cut_to (P := Tryd.prog) 23 45 .i64 Tryd.underlying23 hi0364 Ao16 y357.length co16 2 (by omega) q364 (Kd.R_reads' HO359.out).2.1
                                              have hr364 := Kd.R_take (m := (2 : Int).toNat) HO359.out (by omega)
                                              have hy364 : y400.length = (2 : Int).toNat := (by rw [Ny400.out, List.length_take]; omega)
                                              rw [← Ny400.out] at hr364
                                              rw [← hy364] at hr364 hcut364
                                              clear hy364 hi0364 hsz364 HO359
                                              have HO402 := Aside0.mk hr364
                                              clear hr364
                                              replace q364 := eq_true q364
                                              go_wp2_with (first | ((with_reducible refine gate_callee (f := 20) rfl ?_); refine goesL_ (some 165) rfl rfl Tryd.func20 (by kernel_rfl) rfl #[.agg #[.slice Ao17 y354.length co17, .slice Ao16 y400.length co16]] rfl (by (try simp only [List.map_toArray, List.map_cons, List.map_nil]); first | done | rfl | (simp only [List.length_drop, List.length_take]; rfl)) ?_; (with_reducible refine (tree_May.calls k _ _ y354 _ _ y400 t403 _ ?side1 ?side2 ?side3 ?side4 A352.out).mono ?_); (case side1 => refine (Kd.R_reads' (e := 48) (base := w.heap.size) (ok := fun k_ => True) (n := y354.length) (c := co17) ?_).2.2; exact (by (with_reducible repeat (first | apply Kd.R_alloc | apply Kd.R_drewN | apply Kd.R_drew)); exact (Kd.R_mono (Kd.R_far (p := ⟨gb360, 1, none⟩) (Kd.R_types HO356.out BK360.out (by decide)) (fun _ hk => hk.2) (.slice Ao16 y400.length co16)) (fun _ h_ => h_.1)))); (case side2 => exact (Kd.R_reads' HO356.out).2.1); (case side3 => refine (Kd.R_reads' (e := 45) (base := w.heap.size) (ok := fun k_ => True) (n := y400.length) (c := co16) ?_).2.2; exact (by (with_reducible repeat (first | apply Kd.R_alloc | apply Kd.R_drewN | apply Kd.R_drew)); exact (Kd.R_mono (Kd.R_far (p := ⟨gb360, 1, none⟩) (Kd.R_types HO402.out BK360.out (by decide)) (fun _ hk => hk.2) (.slice Ao16 y400.length co16)) (fun _ h_ => h_.1)))); (case side4 => exact (Kd.R_reads' HO402.out).2.1); rintro e w365 ⟨rfl, hb⟩; refine ⟨_, rfl, ?_⟩; have n0_ := Aside0.mk (Kd.R_below (by (with_reducible repeat (first | apply Kd.R_alloc | apply Kd.R_drewN | apply Kd.R_drew)); exact (Kd.R_mono (Kd.R_far (p := ⟨gb360, 1, none⟩) (Kd.R_types HO356.out BK360.out (by decide)) (fun _ hk => hk.2) (.slice Ao16 y400.length co16)) (fun _ h_ => h_.1))) hb); have n1_ := Aside0.mk (Kd.R_below (by (with_reducible repeat (first | apply Kd.R_alloc | apply Kd.R_drewN | apply Kd.R_drew)); exact (Kd.R_mono (Kd.R_far (p := ⟨gb360, 1, none⟩) (Kd.R_types HO402.out BK360.out (by decide)) (fun _ hk => hk.2) (.slice Ao16 y400.length co16)) (fun _ h_ => h_.1))) hb); have n2_ := Aside0.mk (blk_below (g := gb360) (o := .cells #[.slice Ao17 y354.length co17, .slice Ao16 y400.length co16] 25 (0, 0)) (by (with_reducible repeat (first | refine blk_drewN ?_ _ | refine blk_drew ?_ | refine blk_alloc ?_ _)); refine blk_put (cs := #[.slice Ao17 y354.length co17, .slice Ao16 y357.length co16]) ?_ 1 _ rfl; (with_reducible repeat (first | refine blk_drewN ?_ _ | refine blk_drew ?_ | refine blk_alloc ?_ _)); exact BK360.out) hb); have n3_ := Aside0.mk (below_step (by repeat (first | (with_reducible first | exact HB.out | apply below_alloc | apply pw_below_drewN | apply below_drew1 | refine below_set ?_ GE360.out) | exact HB.out)) hb); clear HO356; clear HO402; clear BK360; clear HB; have HO356 := n0_; have HO402 := n1_; have BK360 := n2_; have HB := n3_; clear n0_ n1_ n2_ n3_; (try clear hb); (try clear hb2); (try clear hk); (try clear hi)))
                                              go_ret
                                              exact ⟨by first | rfl | (simp [errW_none, errW_some] <;> rfl) | (simp [*, errW_none, errW_some] <;> rfl), by repeat (first | (with_reducible first | exact HB.out | apply below_alloc | apply pw_below_drewN | apply below_drew1 | refine below_set ?_ GE360.out) | exact HB.out)⟩
                                            · rw [if_neg c351] at H
                                              exact absurd H (by simp)
                                          · rw [if_neg c350] at H
                                            have c350b0 : ((Int.tmod (IntKind.u64.wrap (a0)) 20) == 18) = false := beq_eq_false_iff_ne.mpr c350
                                            have c350b1 : ((Int.tmod (IntKind.u64.wrap (a0)) 20) != 18) = true := bne_iff_ne.mpr c350
                                            by_cases c366 : y357.length < 1256584717458
                                            · rw [if_pos c366] at H
                                              have LMc366 := Aside0.mk c366
                                              clear c366
                                              obtain ⟨y404, hy404⟩ : ∃ y_ : List (S45), y_ = (y357 ++ [(⟨2, 0, 0, 0, wrap64 (1 + (wrap64 (1 + (Go.bits .and .i64 a1 1023)))), (⟨#[]⟩ : ByteArray), (⟨#[]⟩ : ByteArray), (⟨#[]⟩ : ByteArray), (⟨#[]⟩ : ByteArray), 0⟩ : S45)]) := ⟨_, rfl⟩
                                              first | rw [Option.bind_some, ← hy404] at H | rw [← hy404] at H
                                              (try dsimp only at H)
                                              have Ny404 := Aside0.mk hy404
                                              clear hy404
                                              replace H := Option.bind_eq_some_iff.mp H
                                              obtain ⟨t407, A3670, H⟩ := H
                                              (try dsimp only at H)
                                              have A367 := Aside0.mk A3670
                                              clear A3670
                                              obtain rfl := Option.some.inj H
                                              have hcz378_0 : w20.cell? ⟨gb360, 0, none⟩ = some (.slice Ao17 y354.length co17) := (blk_cell BK360.out 0).trans rfl
                                              have hcz378_1 : w20.cell? ⟨gb360, 1, none⟩ = some (.slice Ao16 y357.length co16) := (blk_cell BK360.out 1).trans rfl
                                              have hfz378_0 := blk_frozen BK360.out 0
                                              have hfz378_1 := blk_frozen BK360.out 1
                                              go_wp2_with (first | ((with_reducible refine gate_builtin (b := .append) (xs := #[.tmp 27, .tmp 31]) rfl ?_); at_builtin; refine Kd.R_append k45 (w0 := w) w.heap.size rfl (.tmp 27) (.tmp 31) 23 45 (.agg #[(.int .i64 0), (.int .i64 0), (.int .i64 0), (.int .i64 0), (.int .i64 0), (.string ⟨#[]⟩), (.string ⟨#[]⟩), (.string ⟨#[]⟩), (.string ⟨#[]⟩), (.int .i64 0)]) 112 rfl Tryd.underlying23 info45 rfl (by decide) (by omega) (.slice Ao16 y357.length co16) y357 (⟨2, 0, 0, 0, wrap64 (1 + (wrap64 (1 + (Go.bits .and .i64 a1 1023)))), (⟨#[]⟩ : ByteArray), (⟨#[]⟩ : ByteArray), (⟨#[]⟩ : ByteArray), (⟨#[]⟩ : ByteArray), 0⟩ : S45) [.int .i64 2, .int .i64 0, .int .i64 0, .int .i64 0, .int .i64 (wrap64 (1 + (wrap64 (1 + (Go.bits .and .i64 a1 1023))))), .string (⟨#[]⟩ : ByteArray), .string (⟨#[]⟩ : ByteArray), .string (⟨#[]⟩ : ByteArray), .string (⟨#[]⟩ : ByteArray), .int .i64 0] (fun _ => True) (fun _ => False) rfl rfl ?aP (fun _ hk => hk.elim) ?aF ?aO ?aB ?aS ?aL ?_; (case aP => exact k45_mkM _ _ _ (⟨2, 0, 0, 0, wrap64 (1 + (wrap64 (1 + (Go.bits .and .i64 a1 1023)))), (⟨#[]⟩ : ByteArray), (⟨#[]⟩ : ByteArray), (⟨#[]⟩ : ByteArray), (⟨#[]⟩ : ByteArray), 0⟩ : S45)); (case aB => exact (by repeat (first | (with_reducible first | exact HB.out | apply below_alloc | apply pw_below_drewN | apply below_drew1 | refine below_set ?_ GE360.out) | exact HB.out))); (case aF => exact (fun _ _ => trivial)); (case aO => exact (by (with_reducible repeat (first | apply Kd.R_alloc | apply Kd.R_drewN | apply Kd.R_drew)); exact HO359.out)); (case aS => exact (below_size (by repeat (first | (with_reducible first | exact HB.out | apply below_alloc | apply pw_below_drewN | apply below_drew1 | refine below_set ?_ GE360.out) | exact HB.out)))); (case aL => have := LMc366.out; omega); intro v405 w379 ho hb hg hat; rw [← Ny404.out] at ho; have n0_ := Aside0.mk (Kd.R_over' (by (with_reducible repeat (first | apply Kd.R_alloc | apply Kd.R_drewN | apply Kd.R_drew)); exact HO356.out) (Kd.R_typed (by (with_reducible repeat (first | apply Kd.R_alloc | apply Kd.R_drewN | apply Kd.R_drew)); exact HO359.out)) (by decide) hg); have n1_ := Aside0.mk (blk_grown (g := gb360) (o := .cells #[.slice Ao17 y354.length co17, .slice Ao16 y357.length co16] 25 (0, 0)) (by (with_reducible repeat (first | refine blk_drewN ?_ _ | refine blk_drew ?_ | refine blk_alloc ?_ _)); exact BK360.out) hg (Kd.R_ne HO359.out BK360.out (by decide))); have n2_ := Aside0.mk (hb); have n3_ := Aside0.mk (ho); clear HO356; clear BK360; clear HB; clear HO359; have HO356 := n0_; have BK360 := n1_; have HB := n2_; have HO406 := n3_; clear n0_ n1_ n2_ n3_; clear ho hb hg hat; obtain ⟨Ao380, co380, eo380⟩ := Kd.R_slice HO406.out; subst eo380; have hcz381_0 : w379.cell? ⟨gb360, 0, none⟩ = some (.slice Ao17 y354.length co17) := (blk_cell BK360.out 0).trans rfl; have hcz381_1 : w379.cell? ⟨gb360, 1, none⟩ = some (.slice Ao16 y357.length co16) := (blk_cell BK360.out 1).trans rfl; have hfz381_0 := blk_frozen BK360.out 0; have hfz381_1 := blk_frozen BK360.out 1) | ((with_reducible refine gate_callee (f := 20) rfl ?_); refine goesL_ (some 165) rfl rfl Tryd.func20 (by kernel_rfl) rfl #[.agg #[.slice Ao17 y354.length co17, .slice Ao380 y404.length co380]] rfl (by (try simp only [List.map_toArray, List.map_cons, List.map_nil]); first | done | rfl | (simp only [List.length_drop, List.length_take]; rfl)) ?_; (with_reducible refine (tree_May.calls k _ _ y354 _ _ y404 t407 _ ?side1 ?side2 ?side3 ?side4 A367.out).mono ?_); (case side1 => refine (Kd.R_reads' (e := 48) (base := w.heap.size) (ok := fun k_ => True) (n := y354.length) (c := co17) ?_).2.2; exact (by (with_reducible repeat (first | apply Kd.R_alloc | apply Kd.R_drewN | apply Kd.R_drew)); exact (Kd.R_mono (Kd.R_far (p := ⟨gb360, 1, none⟩) (Kd.R_types HO356.out BK360.out (by decide)) (fun _ hk => hk.2) (.slice Ao380 y404.length co380)) (fun _ h_ => h_.1)))); (case side2 => exact (Kd.R_reads' HO356.out).2.1); (case side3 => refine (Kd.R_reads' (e := 45) (base := w.heap.size) (ok := fun k_ => True) (n := y404.length) (c := co380) ?_).2.2; exact (by (with_reducible repeat (first | apply Kd.R_alloc | apply Kd.R_drewN | apply Kd.R_drew)); exact (Kd.R_mono (Kd.R_far (p := ⟨gb360, 1, none⟩) (Kd.R_types HO406.out BK360.out (by decide)) (fun _ hk => hk.2) (.slice Ao380 y404.length co380)) (fun _ h_ => h_.1)))); (case side4 => exact (Kd.R_reads' HO406.out).2.1); rintro e w382 ⟨rfl, hb⟩; refine ⟨_, rfl, ?_⟩; have n0_ := Aside0.mk (Kd.R_below (by (with_reducible repeat (first | apply Kd.R_alloc | apply Kd.R_drewN | apply Kd.R_drew)); exact (Kd.R_mono (Kd.R_far (p := ⟨gb360, 1, none⟩) (Kd.R_types HO356.out BK360.out (by decide)) (fun _ hk => hk.2) (.slice Ao380 y404.length co380)) (fun _ h_ => h_.1))) hb); have n1_ := Aside0.mk (Kd.R_below (by (with_reducible repeat (first | apply Kd.R_alloc | apply Kd.R_drewN | apply Kd.R_drew)); exact (Kd.R_mono (Kd.R_far (p := ⟨gb360, 1, none⟩) (Kd.R_types HO406.out BK360.out (by decide)) (fun _ hk => hk.2) (.slice Ao380 y404.length co380)) (fun _ h_ => h_.1))) hb); have n2_ := Aside0.mk (blk_below (g := gb360) (o := .cells #[.slice Ao17 y354.length co17, .slice Ao380 y404.length co380] 25 (0, 0)) (by (with_reducible repeat (first | refine blk_drewN ?_ _ | refine blk_drew ?_ | refine blk_alloc ?_ _)); refine blk_put (cs := #[.slice Ao17 y354.length co17, .slice Ao16 y357.length co16]) ?_ 1 _ rfl; (with_reducible repeat (first | refine blk_drewN ?_ _ | refine blk_drew ?_ | refine blk_alloc ?_ _)); exact BK360.out) hb); have n3_ := Aside0.mk (below_step (by repeat (first | (with_reducible first | exact HB.out | apply below_alloc | apply pw_below_drewN | apply below_drew1 | refine below_set ?_ GE360.out) | exact HB.out)) hb); clear HO356; clear HO406; clear BK360; clear HB; have HO356 := n0_; have HO406 := n1_; have BK360 := n2_; have HB := n3_; clear n0_ n1_ n2_ n3_; (try clear hb); (try clear hb2); (try clear hk); (try clear hi)))
                                              go_ret
                                              exact ⟨by first | rfl | (simp [errW_none, errW_some] <;> rfl) | (simp [*, errW_none, errW_some] <;> rfl), by repeat (first | (with_reducible first | exact HB.out | apply below_alloc | apply pw_below_drewN | apply below_drew1 | refine below_set ?_ GE360.out) | exact HB.out)⟩
                                            · rw [if_neg c366] at H
                                              exact absurd H (by simp)
    · replace c6 := Bool.eq_false_iff.mpr c6
      subst c6
      have H1 := (if_neg (show ¬ (false = true) by decide)).symm.trans H
      clear H
      have H := H1
      clear H1
      exact absurd ((Option.some.inj H).trans HTRUE.out) (by decide)
  · replace c4 := Bool.eq_false_iff.mpr c4
    subst c4
    have H1 := (if_neg (show ¬ (false = true) by decide)).symm.trans H
    clear H
    have H := H1
    clear H1
    exact absurd ((Option.some.inj H).trans HTRUE.out) (by decide)

theorem trammellaw3_TreeForms.callsT (k : Nat) (a0 : Int) (a1 : Int) (r : Bool) (w : World) (htrue : r = true) (h : trammellaw3_TreeForms.f k a0 a1 = some r) :
    Calls Tryd.prog 5 #[.int .i64 a0, .int .i64 a1] w fun e w' => e = .returned (.bool r) ∧ Below w.heap.size w w' := by
  have h0 : 0 ≤ (Int.tmod (IntKind.u64.wrap (a0)) 20) := by
    have : 0 ≤ IntKind.u64.wrap a0 := by rw [Bits.u64_wrap]; exact Int.emod_nonneg _ (by decide)
    exact Int.tmod_nonneg 20 this
  rcases Int.lt_or_le (Int.tmod (IntKind.u64.wrap (a0)) 20) 10 with hp | hp
  · exact trammellaw3_TreeForms.callsLo k a0 a1 r w htrue h h0 hp
  · exact trammellaw3_TreeForms.callsHi k a0 a1 r w htrue h h0 hp
end Go.Proofs.YtnogfhhfklkbiaaDoor.H
