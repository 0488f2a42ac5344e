/- Several texts in one: contracts of functions of the program, and what they lean on. In part written by a program of this session over the kit's print, in part by hand. -/
import Derived.Test.YtnogfhhfklkbiaaDoorT0
import Derived.Test.YtnogfhhfklkbiaaDoorT3
import Derived.Test.YtnogfhhfklkbiaaDoorT5
namespace Go.Proofs.YtnogfhhfklkbiaaDoor.H
open Go.RowKit Go.Proofs.YtnogfhhfklkbiaaDoorW.PrintWords Go.Proofs.YtnogfhhfklkbiaaDoorW.PrintLast Go.Proofs.YtnogfhhfklkbiaaDoorW.PrintMore
attribute [local go_sem] max2_int min2_int max_two min_two max_three min_three max_four min_four   -- for this text's walks alone
set_option linter.unusedVariables false
set_option linter.unusedSimpArgs false

/-! ### trammellaw3_TreeForms: function 5 -/
def trammellaw3_TreeForms.f (k : Nat) (a0 : Int) (a1 : Int) : Option (Bool) := (trammellaw3_awake.f k).bind fun t353 => (if t353 = true then ((some (([(⟨(⟨#[97]⟩ : ByteArray), 0, 0⟩ : S48)] : List (S48)) : List (S48))).bind fun y354 => ((some (([(⟨0, 0, 0, 0, 0, (⟨#[120]⟩ : ByteArray), (⟨#[]⟩ : ByteArray), (⟨#[]⟩ : ByteArray), (⟨#[]⟩ : ByteArray), 0⟩ : S45), (⟨1, 0, 0, 0, 4, (⟨#[]⟩ : ByteArray), (⟨#[]⟩ : ByteArray), (⟨#[]⟩ : ByteArray), (⟨#[]⟩ : ByteArray), 0⟩ : S45), (⟨8, 0, 1, 0, 5, (⟨#[]⟩ : ByteArray), (⟨#[]⟩ : ByteArray), (⟨#[]⟩ : ByteArray), (⟨#[]⟩ : ByteArray), 0⟩ : S45), (⟨3, 2, 0, 0, 0, (⟨#[]⟩ : ByteArray), (⟨#[120]⟩ : ByteArray), (⟨#[]⟩ : ByteArray), (⟨#[]⟩ : ByteArray), 0⟩ : S45)] : List (S45)) : List (S45))).bind fun y357 => ((tree_May.f k y354 y357).bind fun t361 => (if t361 = true then (if (Int.tmod (IntKind.u64.wrap (a0)) 20) = 0 then (if 0 < (y357.length : Int) then ((tree_May.f k y354 (y357.set (0 : Int).toNat (⟨(rd_T45 y357 0).f0, (rd_T45 y357 0).f1, (rd_T45 y357 0).f2, (rd_T45 y357 0).f3, (rd_T45 y357 0).f4, (⟨#[]⟩ : ByteArray), (rd_T45 y357 0).f6, (rd_T45 y357 0).f7, (rd_T45 y357 0).f8, (rd_T45 y357 0).f9⟩ : S45))).bind fun t363 => (some (!t363))) else (none)) else (if (Int.tmod (IntKind.u64.wrap (a0)) 20) = 1 then (if 0 < (y357.length : Int) then ((tree_May.f k y354 (y357.set (0 : Int).toNat (⟨(rd_T45 y357 0).f0, (rd_T45 y357 0).f1, (rd_T45 y357 0).f2, (rd_T45 y357 0).f3, (rd_T45 y357 0).f4, (⟨#[101, 110, 100]⟩ : ByteArray), (rd_T45 y357 0).f6, (rd_T45 y357 0).f7, (rd_T45 y357 0).f8, (rd_T45 y357 0).f9⟩ : S45))).bind fun t365 => (some (!t365))) else (none)) else (if (Int.tmod (IntKind.u64.wrap (a0)) 20) = 2 then (if 0 < (y357.length : Int) then ((tree_May.f k y354 (y357.set (0 : Int).toNat (⟨(rd_T45 y357 0).f0, (rd_T45 y357 0).f1, (rd_T45 y357 0).f2, (rd_T45 y357 0).f3, wrap64 (1 + (Go.bits .and .i64 a1 1023)), (rd_T45 y357 0).f5, (rd_T45 y357 0).f6, (rd_T45 y357 0).f7, (rd_T45 y357 0).f8, (rd_T45 y357 0).f9⟩ : S45))).bind fun t367 => (some (!t367))) else (none)) else (if (Int.tmod (IntKind.u64.wrap (a0)) 20) = 3 then (if 0 < (y357.length : Int) then ((tree_May.f k y354 (y357.set (0 : Int).toNat (⟨(rd_T45 y357 0).f0, (rd_T45 y357 0).f1, (rd_T45 y357 0).f2, (rd_T45 y357 0).f3, (rd_T45 y357 0).f4, (rd_T45 y357 0).f5, (⟨#[121]⟩ : ByteArray), (rd_T45 y357 0).f7, (rd_T45 y357 0).f8, (rd_T45 y357 0).f9⟩ : S45))).bind fun t369 => (some (!t369))) else (none)) else (if (Int.tmod (IntKind.u64.wrap (a0)) 20) = 4 then (if 1 < (y357.length : Int) then ((tree_May.f k y354 (y357.set (1 : Int).toNat (⟨(rd_T45 y357 1).f0, (rd_T45 y357 1).f1, (rd_T45 y357 1).f2, (rd_T45 y357 1).f3, wrap64 (-(wrap64 (1 + (Go.bits .and .i64 a1 1023)))), (rd_T45 y357 1).f5, (rd_T45 y357 1).f6, (rd_T45 y357 1).f7, (rd_T45 y357 1).f8, (rd_T45 y357 1).f9⟩ : S45))).bind fun t371 => (some (!t371))) else (none)) else (if (Int.tmod (IntKind.u64.wrap (a0)) 20) = 5 then (if 1 < (y357.length : Int) then ((tree_May.f k y354 (y357.set (1 : Int).toNat (⟨(rd_T45 y357 1).f0, (rd_T45 y357 1).f1, (rd_T45 y357 1).f2, (rd_T45 y357 1).f3, wrap64 (1073741823 + (wrap64 (1 + (Go.bits .and .i64 a1 1023)))), (rd_T45 y357 1).f5, (rd_T45 y357 1).f6, (rd_T45 y357 1).f7, (rd_T45 y357 1).f8, (rd_T45 y357 1).f9⟩ : S45))).bind fun t373 => (some (!t373))) else (none)) else (if (Int.tmod (IntKind.u64.wrap (a0)) 20) = 6 then (if 2 < (y357.length : Int) then ((tree_May.f k y354 (y357.set (2 : Int).toNat (⟨(rd_T45 y357 2).f0, (rd_T45 y357 2).f1, (rd_T45 y357 2).f2, (rd_T45 y357 2).f3, wrap64 (5 + (wrap64 (1 + (Go.bits .and .i64 a1 1023)))), (rd_T45 y357 2).f5, (rd_T45 y357 2).f6, (rd_T45 y357 2).f7, (rd_T45 y357 2).f8, (rd_T45 y357 2).f9⟩ : S45))).bind fun t375 => (some (!t375))) else (none)) else (if (Int.tmod (IntKind.u64.wrap (a0)) 20) = 7 then (if 2 < (y357.length : Int) then ((tree_May.f k y354 (y357.set (2 : Int).toNat (⟨(rd_T45 y357 2).f0, 1, (rd_T45 y357 2).f2, (rd_T45 y357 2).f3, (rd_T45 y357 2).f4, (rd_T45 y357 2).f5, (rd_T45 y357 2).f6, (rd_T45 y357 2).f7, (rd_T45 y357 2).f8, (rd_T45 y357 2).f9⟩ : S45))).bind fun t377 => (some (!t377))) else (none)) else (if (Int.tmod (IntKind.u64.wrap (a0)) 20) = 8 then (if 2 < (y357.length : Int) then ((tree_May.f k y354 (y357.set (2 : Int).toNat (⟨(rd_T45 y357 2).f0, (rd_T45 y357 2).f1, 0, (rd_T45 y357 2).f3, (rd_T45 y357 2).f4, (rd_T45 y357 2).f5, (rd_T45 y357 2).f6, (rd_T45 y357 2).f7, (rd_T45 y357 2).f8, (rd_T45 y357 2).f9⟩ : S45))).bind fun t379 => (some (!t379))) else (none)) else (if (Int.tmod (IntKind.u64.wrap (a0)) 20) = 9 then (if 2 < (y357.length : Int) then ((tree_May.f k y354 (y357.set (2 : Int).toNat (⟨(rd_T45 y357 2).f0, (rd_T45 y357 2).f1, (rd_T45 y357 2).f2, wrap64 (1 + (Go.bits .and .i64 a1 1023)), (rd_T45 y357 2).f4, (rd_T45 y357 2).f5, (rd_T45 y357 2).f6, (rd_T45 y357 2).f7, (rd_T45 y357 2).f8, (rd_T45 y357 2).f9⟩ : S45))).bind fun t381 => (some (!t381))) else (none)) else (if (Int.tmod (IntKind.u64.wrap (a0)) 20) = 10 then (if 3 < (y357.length : Int) then ((tree_May.f k y354 (y357.set (3 : Int).toNat (⟨(rd_T45 y357 3).f0, wrap64 ((wrap64 (1 + (Go.bits .and .i64 a1 1023))) + 2), (rd_T45 y357 3).f2, (rd_T45 y357 3).f3, (rd_T45 y357 3).f4, (rd_T45 y357 3).f5, (rd_T45 y357 3).f6, (rd_T45 y357 3).f7, (rd_T45 y357 3).f8, (rd_T45 y357 3).f9⟩ : S45))).bind fun t383 => (some (!t383))) else (none)) else (if (Int.tmod (IntKind.u64.wrap (a0)) 20) = 11 then (if 3 < (y357.length : Int) then ((tree_May.f k y354 (y357.set (3 : Int).toNat (⟨(rd_T45 y357 3).f0, (rd_T45 y357 3).f1, (rd_T45 y357 3).f2, (rd_T45 y357 3).f3, (rd_T45 y357 3).f4, (rd_T45 y357 3).f5, (⟨#[88]⟩ : ByteArray), (rd_T45 y357 3).f7, (rd_T45 y357 3).f8, (rd_T45 y357 3).f9⟩ : S45))).bind fun t385 => (some (!t385))) else (none)) else (if (Int.tmod (IntKind.u64.wrap (a0)) 20) = 12 then (if 3 < (y357.length : Int) then ((tree_May.f k y354 (y357.set (3 : Int).toNat (⟨wrap64 (10 + (wrap64 (1 + (Go.bits .and .i64 a1 1023)))), (rd_T45 y357 3).f1, (rd_T45 y357 3).f2, (rd_T45 y357 3).f3, (rd_T45 y357 3).f4, (rd_T45 y357 3).f5, (rd_T45 y357 3).f6, (rd_T45 y357 3).f7, (rd_T45 y357 3).f8, (rd_T45 y357 3).f9⟩ : S45))).bind fun t387 => (some (!t387))) else (none)) else (if (Int.tmod (IntKind.u64.wrap (a0)) 20) = 13 then (if 0 < (y357.length : Int) then ((tree_May.f k y354 (y357.set (0 : Int).toNat (⟨(rd_T45 y357 0).f0, (rd_T45 y357 0).f1, (rd_T45 y357 0).f2, (rd_T45 y357 0).f3, (rd_T45 y357 0).f4, (rd_T45 y357 0).f5, (rd_T45 y357 0).f6, (rd_T45 y357 0).f7, (rd_T45 y357 0).f8, wrap64 (-(wrap64 (1 + (Go.bits .and .i64 a1 1023))))⟩ : S45))).bind fun t389 => (some (!t389))) else (none)) else (if (Int.tmod (IntKind.u64.wrap (a0)) 20) = 14 then (if 0 < (y357.length : Int) then ((tree_May.f k y354 (y357.set (0 : Int).toNat (⟨(rd_T45 y357 0).f0, (rd_T45 y357 0).f1, (rd_T45 y357 0).f2, (rd_T45 y357 0).f3, (rd_T45 y357 0).f4, (rd_T45 y357 0).f5, (rd_T45 y357 0).f6, (rd_T45 y357 0).f7, (rd_T45 y357 0).f8, wrap64 (4096 + (wrap64 (1 + (Go.bits .and .i64 a1 1023))))⟩ : S45))).bind fun t391 => (some (!t391))) else (none)) else (if (Int.tmod (IntKind.u64.wrap (a0)) 20) = 15 then (if 0 < (y354.length : Int) then ((tree_May.f k (y354.set (0 : Int).toNat (⟨(⟨#[97, 32, 98]⟩ : ByteArray), (rd_T48 y354 0).f1, (rd_T48 y354 0).f2⟩ : S48)) y357).bind fun t393 => (some (!t393))) else (none)) else (if (Int.tmod (IntKind.u64.wrap (a0)) 20) = 16 then (if 0 < (y354.length : Int) then ((tree_May.f k (y354.set (0 : Int).toNat (⟨(rd_T48 y354 0).f0, (rd_T48 y354 0).f1, 2⟩ : S48)) y357).bind fun t395 => (some (!t395))) else (none)) else (if (Int.tmod (IntKind.u64.wrap (a0)) 20) = 17 then (if 0 ≤ (wrap64 (4 + (wrap64 (1 + (Go.bits .and .i64 a1 1023))))) then (if (wrap64 (4 + (wrap64 (1 + (Go.bits .and .i64 a1 1023)))) : Int).toNat ≤ 8796093022208 then ((tree_May.f k (List.replicate (wrap64 (4 + (wrap64 (1 + (Go.bits .and .i64 a1 1023)))) : Int).toNat z48) y357).bind fun t399 => (some (!t399))) else (none)) else (none)) else (if (Int.tmod (IntKind.u64.wrap (a0)) 20) = 18 then (if 2 ≤ (y357.length : Int) then ((tree_May.f k y354 (y357.take (2 : Int).toNat)).bind fun t403 => (some (!t403))) else (none)) else (if y357.length < 1256584717458 then ((tree_May.f k y354 (y357 ++ [(⟨2, 0, 0, 0, wrap64 (1 + (wrap64 (1 + (Go.bits .and .i64 a1 1023)))), (⟨#[]⟩ : ByteArray), (⟨#[]⟩ : ByteArray), (⟨#[]⟩ : ByteArray), (⟨#[]⟩ : ByteArray), 0⟩ : S45)])).bind fun t407 => (some (!t407))) else (none))))))))))))))))))))) else (some false))))) else (some false))
theorem trammellaw3_TreeForms.mono : ∀ a0 a1 k, LeO (trammellaw3_TreeForms.f k a0 a1) (trammellaw3_TreeForms.f (k + 1) a0 a1) := by
  intro a0 a1 k
  unfold trammellaw3_TreeForms.f
  repeat' first
      | (with_reducible exact trammellaw3_awake.mono _)
      | (with_reducible exact tree_May.mono _ _ _)
      | (with_reducible exact LeO.refl _)
      | (with_reducible exact LeO.none _)
      | (with_reducible refine LeO.ite ?_ ?_)
      | (with_reducible refine LeO.bind ?_ (fun _ => ?_))
      | exact trammellaw3_awake.mono _
      | exact tree_May.mono _ _ _
      | exact LeO.none _
      | refine LeO.ite ?_ ?_
      | refine LeO.bind ?_ (fun _ => ?_)
theorem forms_lo {x : Int} (h0 : 0 ≤ x) (h : x < 10) (n0 : ¬ x = 0) (n1 : ¬ x = 1) (n2 : ¬ x = 2) (n3 : ¬ x = 3) (n4 : ¬ x = 4) (n5 : ¬ x = 5) (n6 : ¬ x = 6) (n7 : ¬ x = 7) (n8 : ¬ x = 8) (n9 : ¬ x = 9) : False := by omega
theorem forms_hi {x c : Int} (h : 10 ≤ x) (e : x = c) (hc : c < 10) : False := by omega
set_option maxHeartbeats 8000000 in
set_option maxRecDepth 100000 in
theorem trammellaw3_TreeForms.callsLo (k : Nat) (a0 : Int) (a1 : Int) (r : Bool) (w : World) (htrue : r = true) (h : trammellaw3_TreeForms.f k a0 a1 = some r) (hp0 : 0 ≤ (Int.tmod (IntKind.u64.wrap (a0)) 20)) (hpart : (Int.tmod (IntKind.u64.wrap (a0)) 20) < 10) :
    Calls Tryd.prog 5 #[.int .i64 a0, .int .i64 a1] w fun e w' => e = .returned (.bool r) ∧ Below w.heap.size w w' := by
  have HP0 := Aside0.mk hp0
  have HPART := Aside0.mk hpart
  clear hp0 hpart
  have HTRUE := Aside0.mk htrue
  clear htrue
  have hu48 := Tryd.underlying48
  have hu45 := Tryd.underlying45
  have hu25 := Tryd.underlying25
  have HB := Aside0.mk (Below.refl w.heap.size w)
  have H := h
  clear h
  unfold trammellaw3_TreeForms.f at H
  replace H := Option.bind_eq_some_iff.mp H
  obtain ⟨t353, A30, H⟩ := H
  (try dsimp only at H)
  have A3 := Aside0.mk A30
  clear A30
  by_cases c4 : t353 = true
  · subst c4
    have H1 := (if_pos rfl).symm.trans H
    clear H
    have H := H1
    clear H1
    obtain ⟨y354, hy354⟩ : ∃ y_ : List (S48), y_ = (([(⟨(⟨#[97]⟩ : ByteArray), 0, 0⟩ : S48)] : List (S48))) := ⟨_, rfl⟩
    first | rw [Option.bind_some, ← hy354] at H | rw [← hy354] at H
    (try dsimp only at H)
    have Ny354 := Aside0.mk hy354
    clear hy354
    obtain ⟨y357, hy357⟩ : ∃ y_ : List (S45), y_ = (([(⟨0, 0, 0, 0, 0, (⟨#[120]⟩ : ByteArray), (⟨#[]⟩ : ByteArray), (⟨#[]⟩ : ByteArray), (⟨#[]⟩ : ByteArray), 0⟩ : S45), (⟨1, 0, 0, 0, 4, (⟨#[]⟩ : ByteArray), (⟨#[]⟩ : ByteArray), (⟨#[]⟩ : ByteArray), (⟨#[]⟩ : ByteArray), 0⟩ : S45), (⟨8, 0, 1, 0, 5, (⟨#[]⟩ : ByteArray), (⟨#[]⟩ : ByteArray), (⟨#[]⟩ : ByteArray), (⟨#[]⟩ : ByteArray), 0⟩ : S45), (⟨3, 2, 0, 0, 0, (⟨#[]⟩ : ByteArray), (⟨#[120]⟩ : ByteArray), (⟨#[]⟩ : ByteArray), (⟨#[]⟩ : ByteArray), 0⟩ : S45)] : List (S45))) := ⟨_, rfl⟩
    first | rw [Option.bind_some, ← hy357] at H | rw [← hy357] at H
    (try dsimp only at H)
    have Ny357 := Aside0.mk hy357
    clear hy357
    replace H := Option.bind_eq_some_iff.mp H
    obtain ⟨t361, A50, H⟩ := H
    (try dsimp only at H)
    have A5 := Aside0.mk A50
    clear A50
    by_cases c6 : t361 = true
    · subst c6
      have H1 := (if_pos rfl).symm.trans H
      clear H
      have H := H1
      clear H1
      go_enter Tryd.func5, Tryd.ntmps5
      go_upto_region 9 with (first | ((with_reducible refine gate_callee (f := 26) rfl ?_); refine goesL_ (some 7) rfl rfl Tryd.func26 (by kernel_rfl) rfl #[] rfl (by (try simp only [List.map_toArray, List.map_cons, List.map_nil]); first | done | rfl | (simp only [List.length_drop, List.length_take]; rfl)) ?_; (with_reducible refine (trammellaw3_awake.calls k  true _ A3.out).mono ?_); rintro e w11 ⟨rfl, hb⟩; refine ⟨_, rfl, ?_⟩; have n0_ := Aside0.mk (below_step (by repeat (first | (with_reducible first | exact HB.out | apply below_alloc | apply pw_below_drewN | apply below_drew1) | exact HB.out)) hb); clear HB; have HB := n0_; clear n0_; (try clear hb); (try clear hb2); (try clear hk); (try clear hi)) | ((with_reducible refine gate_dst (N := 13) rfl ?_); refine Kd.R_lit k48 _ 48 ?hg (N := 13) ?hd (xs := ([(⟨(⟨#[97]⟩ : ByteArray), 0, 0⟩ : S48)] : List (S48))) (inner := [.string (⟨#[97]⟩ : ByteArray), .int .i64 0, .int .i64 0]) (ok := fun _ => True) (okp := fun _ => True) ?hr ?hp (fun _ hk => hk) trivial (Below.refl _ _) (Nat.le_refl _) (by simp) ?_; (case hd => rfl); (case hg => rfl); (case hr => first | (go_simp; done) | (go_simp; rfl)); (case hp => exact (Reps.c3 (show Kd.M k48 _ _ _ (⟨(⟨#[97]⟩ : ByteArray), 0, 0⟩ : S48) [.string (⟨#[97]⟩ : ByteArray), .int .i64 0, .int .i64 0] from (k48_mkM _ _ _ (⟨(⟨#[97]⟩ : ByteArray), 0, 0⟩ : S48) )) (Reps.none _ _))); intro v355 w12 ho13 hb hg_ hnew_; clear hg_ hnew_; (first | rw [← Ny354.out] at ho13 | (simp only [Int.reduceToNat] at ho13; rw [← Ny354.out] at ho13)); have n0_ := Aside0.mk (Kd.R_lower ho13 (below_size (by repeat (first | (with_reducible first | exact HB.out | apply below_alloc | apply pw_below_drewN | apply below_drew1) | exact HB.out)))); have n1_ := Aside0.mk (below_step (by repeat (first | (with_reducible first | exact HB.out | apply below_alloc | apply pw_below_drewN | apply below_drew1) | exact HB.out)) hb); clear HB; have HO356 := n0_; have HB := n1_; clear n0_ n1_; clear hb ho13) | ((with_reducible refine gate_dst (N := 18) rfl ?_); refine Kd.R_lit k45 _ 45 ?hg (N := 18) ?hd (xs := ([(⟨0, 0, 0, 0, 0, (⟨#[120]⟩ : ByteArray), (⟨#[]⟩ : ByteArray), (⟨#[]⟩ : ByteArray), (⟨#[]⟩ : ByteArray), 0⟩ : S45), (⟨1, 0, 0, 0, 4, (⟨#[]⟩ : ByteArray), (⟨#[]⟩ : ByteArray), (⟨#[]⟩ : ByteArray), (⟨#[]⟩ : ByteArray), 0⟩ : S45), (⟨8, 0, 1, 0, 5, (⟨#[]⟩ : ByteArray), (⟨#[]⟩ : ByteArray), (⟨#[]⟩ : ByteArray), (⟨#[]⟩ : ByteArray), 0⟩ : S45), (⟨3, 2, 0, 0, 0, (⟨#[]⟩ : ByteArray), (⟨#[120]⟩ : ByteArray), (⟨#[]⟩ : ByteArray), (⟨#[]⟩ : ByteArray), 0⟩ : S45)] : List (S45))) (inner := [.int .i64 0, .int .i64 0, .int .i64 0, .int .i64 0, .int .i64 0, .string (⟨#[120]⟩ : ByteArray), .string (⟨#[]⟩ : ByteArray), .string (⟨#[]⟩ : ByteArray), .string (⟨#[]⟩ : ByteArray), .int .i64 0, .int .i64 1, .int .i64 0, .int .i64 0, .int .i64 0, .int .i64 4, .string (⟨#[]⟩ : ByteArray), .string (⟨#[]⟩ : ByteArray), .string (⟨#[]⟩ : ByteArray), .string (⟨#[]⟩ : ByteArray), .int .i64 0, .int .i64 8, .int .i64 0, .int .i64 1, .int .i64 0, .int .i64 5, .string (⟨#[]⟩ : ByteArray), .string (⟨#[]⟩ : ByteArray), .string (⟨#[]⟩ : ByteArray), .string (⟨#[]⟩ : ByteArray), .int .i64 0, .int .i64 3, .int .i64 2, .int .i64 0, .int .i64 0, .int .i64 0, .string (⟨#[]⟩ : ByteArray), .string (⟨#[120]⟩ : ByteArray), .string (⟨#[]⟩ : ByteArray), .string (⟨#[]⟩ : ByteArray), .int .i64 0]) (ok := fun _ => True) (okp := fun _ => True) ?hr ?hp (fun _ hk => hk) trivial (Below.refl _ _) (Nat.le_refl _) (by simp) ?_; (case hd => rfl); (case hg => rfl); (case hr => first | (go_simp; done) | (go_simp; rfl)); (case hp => exact (Reps.c10 (show Kd.M k45 _ _ _ (⟨0, 0, 0, 0, 0, (⟨#[120]⟩ : ByteArray), (⟨#[]⟩ : ByteArray), (⟨#[]⟩ : ByteArray), (⟨#[]⟩ : ByteArray), 0⟩ : S45) [.int .i64 0, .int .i64 0, .int .i64 0, .int .i64 0, .int .i64 0, .string (⟨#[120]⟩ : ByteArray), .string (⟨#[]⟩ : ByteArray), .string (⟨#[]⟩ : ByteArray), .string (⟨#[]⟩ : ByteArray), .int .i64 0] from (k45_mkM _ _ _ (⟨0, 0, 0, 0, 0, (⟨#[120]⟩ : ByteArray), (⟨#[]⟩ : ByteArray), (⟨#[]⟩ : ByteArray), (⟨#[]⟩ : ByteArray), 0⟩ : S45) )) (Reps.c10 (show Kd.M k45 _ _ _ (⟨1, 0, 0, 0, 4, (⟨#[]⟩ : ByteArray), (⟨#[]⟩ : ByteArray), (⟨#[]⟩ : ByteArray), (⟨#[]⟩ : ByteArray), 0⟩ : S45) [.int .i64 1, .int .i64 0, .int .i64 0, .int .i64 0, .int .i64 4, .string (⟨#[]⟩ : ByteArray), .string (⟨#[]⟩ : ByteArray), .string (⟨#[]⟩ : ByteArray), .string (⟨#[]⟩ : ByteArray), .int .i64 0] from (k45_mkM _ _ _ (⟨1, 0, 0, 0, 4, (⟨#[]⟩ : ByteArray), (⟨#[]⟩ : ByteArray), (⟨#[]⟩ : ByteArray), (⟨#[]⟩ : ByteArray), 0⟩ : S45) )) (Reps.c10 (show Kd.M k45 _ _ _ (⟨8, 0, 1, 0, 5, (⟨#[]⟩ : ByteArray), (⟨#[]⟩ : ByteArray), (⟨#[]⟩ : ByteArray), (⟨#[]⟩ : ByteArray), 0⟩ : S45) [.int .i64 8, .int .i64 0, .int .i64 1, .int .i64 0, .int .i64 5, .string (⟨#[]⟩ : ByteArray), .string (⟨#[]⟩ : ByteArray), .string (⟨#[]⟩ : ByteArray), .string (⟨#[]⟩ : ByteArray), .int .i64 0] from (k45_mkM _ _ _ (⟨8, 0, 1, 0, 5, (⟨#[]⟩ : ByteArray), (⟨#[]⟩ : ByteArray), (⟨#[]⟩ : ByteArray), (⟨#[]⟩ : ByteArray), 0⟩ : S45) )) (Reps.c10 (show Kd.M k45 _ _ _ (⟨3, 2, 0, 0, 0, (⟨#[]⟩ : ByteArray), (⟨#[120]⟩ : ByteArray), (⟨#[]⟩ : ByteArray), (⟨#[]⟩ : ByteArray), 0⟩ : S45) [.int .i64 3, .int .i64 2, .int .i64 0, .int .i64 0, .int .i64 0, .string (⟨#[]⟩ : ByteArray), .string (⟨#[120]⟩ : ByteArray), .string (⟨#[]⟩ : ByteArray), .string (⟨#[]⟩ : ByteArray), .int .i64 0] from (k45_mkM _ _ _ (⟨3, 2, 0, 0, 0, (⟨#[]⟩ : ByteArray), (⟨#[120]⟩ : ByteArray), (⟨#[]⟩ : ByteArray), (⟨#[]⟩ : ByteArray), 0⟩ : S45) )) (Reps.none _ _)))))); intro v358 w14 ho15 hb hg_ hnew_; clear hg_ hnew_; (first | rw [← Ny357.out] at ho15 | (simp only [Int.reduceToNat] at ho15; rw [← Ny357.out] at ho15)); have n0_ := Aside0.mk (Kd.R_below (by (with_reducible repeat (first | apply Kd.R_alloc | apply Kd.R_drewN | apply Kd.R_drew)); exact HO356.out) hb); have n1_ := Aside0.mk (Kd.R_lower ho15 (below_size (by repeat (first | (with_reducible first | exact HB.out | apply below_alloc | apply pw_below_drewN | apply below_drew1) | exact HB.out)))); have n2_ := Aside0.mk (below_step (by repeat (first | (with_reducible first | exact HB.out | apply below_alloc | apply pw_below_drewN | apply below_drew1) | exact HB.out)) hb); clear HO356; clear HB; have HO356 := n0_; have HO359 := n1_; have HB := n2_; clear n0_ n1_ n2_; clear hb ho15; obtain ⟨Ao16, co16, eo16⟩ := Kd.R_slice HO359.out; subst eo16; obtain ⟨Ao17, co17, eo17⟩ := Kd.R_slice HO356.out; subst eo17) | ((with_reducible refine gate_dst (N := 6) rfl ?_); refine box_event ?hg (N := 6) ?hd (cs := #[.slice none 0 0, .slice none 0 0]) (t := 25) ?hr ?_; (case hd => rfl); (case hg => rfl); (case hr => first | (go_simp; done) | (go_simp; rfl)); intro gb360 hg w18 hbox hb; have n0_ := Aside0.mk (Kd.R_below (by (with_reducible repeat (first | apply Kd.R_alloc | apply Kd.R_drewN | apply Kd.R_drew)); exact HO356.out) hb); have n1_ := Aside0.mk (Kd.R_below (by (with_reducible repeat (first | apply Kd.R_alloc | apply Kd.R_drewN | apply Kd.R_drew)); exact HO359.out) hb); have n2_ := Aside0.mk (below_step (by repeat (first | (with_reducible first | exact HB.out | apply below_alloc | apply pw_below_drewN | apply below_drew1) | exact HB.out)) hb); have n3_ := Aside0.mk (hbox); have n4_ := Aside0.mk ((by rw [hg]; exact (below_size (by repeat (first | (with_reducible first | exact HB.out | apply below_alloc | apply pw_below_drewN | apply below_drew1) | exact HB.out))) : w.heap.size ≤ gb360)); have n5_ := Aside0.mk ((by rw [hg]; exact (below_size (by repeat (first | (with_reducible first | exact HB.out | apply below_alloc | apply pw_below_drewN | apply below_drew1) | exact HB.out))) : w.heap.size ≤ gb360)); clear HO356; clear HO359; clear HB; have HO356 := n0_; have HO359 := n1_; have HB := n2_; have BK360 := n3_; have GW360 := n4_; have GE360 := n5_; clear n0_ n1_ n2_ n3_ n4_ n5_; clear hb hbox hg; have hcz19_0 : w18.cell? ⟨gb360, 0, none⟩ = some (.slice none 0 0) := (blk_cell BK360.out 0).trans rfl; have hcz19_1 : w18.cell? ⟨gb360, 1, none⟩ = some (.slice none 0 0) := (blk_cell BK360.out 1).trans rfl; have hfz19_0 := blk_frozen BK360.out 0; have hfz19_1 := blk_frozen BK360.out 1) | ((with_reducible refine gate_callee (f := 20) rfl ?_); refine goesL_ (some 21) rfl rfl Tryd.func20 (by kernel_rfl) rfl #[.agg #[.slice Ao17 y354.length co17, .slice Ao16 y357.length co16]] rfl (by (try simp only [List.map_toArray, List.map_cons, List.map_nil]); first | done | rfl | (simp only [List.length_drop, List.length_take]; rfl)) ?_; (with_reducible refine (tree_May.calls k _ _ y354 _ _ y357 true _ ?side1 ?side2 ?side3 ?side4 A5.out).mono ?_); (case side1 => refine (Kd.R_reads' (e := 48) (base := w.heap.size) (ok := fun k_ => True) (n := y354.length) (c := co17) ?_).2.2; exact (by (with_reducible repeat (first | apply Kd.R_alloc | apply Kd.R_drewN | apply Kd.R_drew)); exact (Kd.R_mono (Kd.R_far (p := ⟨gb360, 1, none⟩) (Kd.R_far (p := ⟨gb360, 0, none⟩) (Kd.R_types HO356.out BK360.out (by decide)) (fun _ hk => hk.2) (.slice Ao17 y354.length co17)) (fun _ hk => hk.2) (.slice Ao16 y357.length co16)) (fun _ h_ => h_.1)))); (case side2 => exact (Kd.R_reads' HO356.out).2.1); (case side3 => refine (Kd.R_reads' (e := 45) (base := w.heap.size) (ok := fun k_ => True) (n := y357.length) (c := co16) ?_).2.2; exact (by (with_reducible repeat (first | apply Kd.R_alloc | apply Kd.R_drewN | apply Kd.R_drew)); exact (Kd.R_mono (Kd.R_far (p := ⟨gb360, 1, none⟩) (Kd.R_far (p := ⟨gb360, 0, none⟩) (Kd.R_types HO359.out BK360.out (by decide)) (fun _ hk => hk.2) (.slice Ao17 y354.length co17)) (fun _ hk => hk.2) (.slice Ao16 y357.length co16)) (fun _ h_ => h_.1)))); (case side4 => exact (Kd.R_reads' HO359.out).2.1); rintro e w20 ⟨rfl, hb⟩; refine ⟨_, rfl, ?_⟩; have n0_ := Aside0.mk (Kd.R_below (by (with_reducible repeat (first | apply Kd.R_alloc | apply Kd.R_drewN | apply Kd.R_drew)); exact (Kd.R_mono (Kd.R_far (p := ⟨gb360, 1, none⟩) (Kd.R_far (p := ⟨gb360, 0, none⟩) (Kd.R_types HO356.out BK360.out (by decide)) (fun _ hk => hk.2) (.slice Ao17 y354.length co17)) (fun _ hk => hk.2) (.slice Ao16 y357.length co16)) (fun _ h_ => h_.1))) hb); have n1_ := Aside0.mk (Kd.R_below (by (with_reducible repeat (first | apply Kd.R_alloc | apply Kd.R_drewN | apply Kd.R_drew)); exact (Kd.R_mono (Kd.R_far (p := ⟨gb360, 1, none⟩) (Kd.R_far (p := ⟨gb360, 0, none⟩) (Kd.R_types HO359.out BK360.out (by decide)) (fun _ hk => hk.2) (.slice Ao17 y354.length co17)) (fun _ hk => hk.2) (.slice Ao16 y357.length co16)) (fun _ h_ => h_.1))) hb); have n2_ := Aside0.mk (blk_below (g := gb360) (o := .cells #[.slice Ao17 y354.length co17, .slice Ao16 y357.length co16] 25 (0, 0)) (by (with_reducible repeat (first | refine blk_drewN ?_ _ | refine blk_drew ?_ | refine blk_alloc ?_ _)); refine blk_put (cs := #[.slice Ao17 y354.length co17, .slice none 0 0]) ?_ 1 _ rfl; (with_reducible repeat (first | refine blk_drewN ?_ _ | refine blk_drew ?_ | refine blk_alloc ?_ _)); refine blk_put (cs := #[.slice none 0 0, .slice none 0 0]) ?_ 0 _ rfl; (with_reducible repeat (first | refine blk_drewN ?_ _ | refine blk_drew ?_ | refine blk_alloc ?_ _)); exact BK360.out) hb); have n3_ := Aside0.mk (below_step (by repeat (first | (with_reducible first | exact HB.out | apply below_alloc | apply pw_below_drewN | apply below_drew1 | refine below_set ?_ GE360.out) | exact HB.out)) hb); clear HO356; clear HO359; clear BK360; clear HB; have HO356 := n0_; have HO359 := n1_; have BK360 := n2_; have HB := n3_; clear n0_ n1_ n2_ n3_; (try clear hb); (try clear hb2); (try clear hk); (try clear hi)))
      by_cases c7 : (Int.tmod (IntKind.u64.wrap (a0)) 20) = 0
      · rw [if_pos c7] at H
        have c7b0 : ((Int.tmod (IntKind.u64.wrap (a0)) 20) == 0) = true := beq_iff_eq.mpr c7
        have c7b1 : ((Int.tmod (IntKind.u64.wrap (a0)) 20) != 0) = false := bne_eq_false_iff_eq.mpr c7
        clear c7
        by_cases c8 : 0 < (y357.length : Int)
        · rw [if_pos c8] at H
          have c8b0 : decide (0 < (y357.length : Int)) = true := decide_eq_true c8
          have c8b1 : decide (0 < y357.length) = true := decide_eq_true (by omega)
          clear c8
          obtain ⟨y362, hy362⟩ : ∃ y_ : List (S45), y_ = (y357.set (0 : Int).toNat (⟨(rd_T45 y357 0).f0, (rd_T45 y357 0).f1, (rd_T45 y357 0).f2, (rd_T45 y357 0).f3, (rd_T45 y357 0).f4, (⟨#[]⟩ : ByteArray), (rd_T45 y357 0).f6, (rd_T45 y357 0).f7, (rd_T45 y357 0).f8, (rd_T45 y357 0).f9⟩ : S45)) := ⟨_, rfl⟩
          first | rw [Option.bind_some, ← hy362] at H | rw [← hy362] at H
          (try dsimp only at H)
          have Ny362 := Aside0.mk hy362
          clear hy362
          replace H := Option.bind_eq_some_iff.mp H
          obtain ⟨t363, A100, H⟩ := H
          (try dsimp only at H)
          have A10 := Aside0.mk A100
          clear A100
          obtain rfl := Option.some.inj H
          have hcz21_0 : w20.cell? ⟨gb360, 0, none⟩ = some (.slice Ao17 y354.length co17) := (blk_cell BK360.out 0).trans rfl
          have hcz21_1 : w20.cell? ⟨gb360, 1, none⟩ = some (.slice Ao16 y357.length co16) := (blk_cell BK360.out 1).trans rfl
          have hfz21_0 := blk_frozen BK360.out 0
          have hfz21_1 := blk_frozen BK360.out 1
          have p9 : 0 ≤ (0 : Int) := (by omega)
          have q9 : (0 : Int) < ((y357.length : Int) : Int) := of_decide_eq_true (by first | (with_reducible assumption) | assumption)
          have qi9 : (0 < y357.length) = True := eq_true (by omega)
          obtain ⟨go9, co9, eo9, gb9, gl9, cl9, HG9⟩ := Kd.R_form HO359.out (by omega)
          (first | cases eo9 | (injection eo9 with ea_ en_ ec_; (first | subst ea_ | (injection ea_ with ea_; subst ea_)); subst ec_; clear en_))
          have GB9 := Aside0.mk gb9
          have GG9 := Aside0.mk HG9
          clear gb9 gl9 HG9
          obtain ⟨ce9, hcl9, hM9, hcc9, hfr9⟩ := Kd.R_elem HO359.out z45 (0 : Int) p9 q9
          obtain rfl := k45_openM hM9
          have hx9_0 : w20.cell? ⟨go9, (0 : Int).toNat * 10, none⟩ = some (.int .i64 ((rd_T45 y357 0).f0)) := hcc9 0 _ rfl
          have hx9_1 : w20.cell? ⟨go9, (0 : Int).toNat * 10 + 1, none⟩ = some (.int .i64 ((rd_T45 y357 0).f1)) := hcc9 1 _ rfl
          have hx9_2 : w20.cell? ⟨go9, (0 : Int).toNat * 10 + 2, none⟩ = some (.int .i64 ((rd_T45 y357 0).f2)) := hcc9 2 _ rfl
          have hx9_3 : w20.cell? ⟨go9, (0 : Int).toNat * 10 + 3, none⟩ = some (.int .i64 ((rd_T45 y357 0).f3)) := hcc9 3 _ rfl
          have hx9_4 : w20.cell? ⟨go9, (0 : Int).toNat * 10 + 4, none⟩ = some (.int .i64 ((rd_T45 y357 0).f4)) := hcc9 4 _ rfl
          have hx9_5 : w20.cell? ⟨go9, (0 : Int).toNat * 10 + 5, none⟩ = some (.string ((rd_T45 y357 0).f5)) := hcc9 5 _ rfl
          have hx9_6 : w20.cell? ⟨go9, (0 : Int).toNat * 10 + 6, none⟩ = some (.string ((rd_T45 y357 0).f6)) := hcc9 6 _ rfl
          have hx9_7 : w20.cell? ⟨go9, (0 : Int).toNat * 10 + 7, none⟩ = some (.string ((rd_T45 y357 0).f7)) := hcc9 7 _ rfl
          have hx9_8 : w20.cell? ⟨go9, (0 : Int).toNat * 10 + 8, none⟩ = some (.string ((rd_T45 y357 0).f8)) := hcc9 8 _ rfl
          have hx9_9 : w20.cell? ⟨go9, (0 : Int).toNat * 10 + 9, none⟩ = some (.int .i64 ((rd_T45 y357 0).f9)) := hcc9 9 _ rfl
          have hf9_0 : w20.frozen? ⟨go9, (0 : Int).toNat * 10, none⟩ = false := hfr9 0
          have hf9_1 : w20.frozen? ⟨go9, (0 : Int).toNat * 10 + 1, none⟩ = false := hfr9 1
          have hf9_2 : w20.frozen? ⟨go9, (0 : Int).toNat * 10 + 2, none⟩ = false := hfr9 2
          have hf9_3 : w20.frozen? ⟨go9, (0 : Int).toNat * 10 + 3, none⟩ = false := hfr9 3
          have hf9_4 : w20.frozen? ⟨go9, (0 : Int).toNat * 10 + 4, none⟩ = false := hfr9 4
          have hf9_5 : w20.frozen? ⟨go9, (0 : Int).toNat * 10 + 5, none⟩ = false := hfr9 5
          have hf9_6 : w20.frozen? ⟨go9, (0 : Int).toNat * 10 + 6, none⟩ = false := hfr9 6
          have hf9_7 : w20.frozen? ⟨go9, (0 : Int).toNat * 10 + 7, none⟩ = false := hfr9 7
          have hf9_8 : w20.frozen? ⟨go9, (0 : Int).toNat * 10 + 8, none⟩ = false := hfr9 8
          have hf9_9 : w20.frozen? ⟨go9, (0 : Int).toNat * 10 + 9, none⟩ = false := hfr9 9
          clear hcl9 hcc9 hfr9 hM9
          (try rw [show ((0 : Int)).toNat = 0 from rfl] at hx9_0)
          (try simp only [Nat.reduceMul, Nat.zero_mul, Nat.zero_add, Nat.reduceAdd] at hx9_0)
          (try rw [show ((0 : Int)).toNat = 0 from rfl] at hf9_0)
          (try simp only [Nat.reduceMul, Nat.zero_mul, Nat.zero_add, Nat.reduceAdd] at hf9_0)
          (try rw [show ((0 : Int)).toNat = 0 from rfl] at hx9_1)
          (try simp only [Nat.reduceMul, Nat.zero_mul, Nat.zero_add, Nat.reduceAdd] at hx9_1)
          (try rw [show ((0 : Int)).toNat = 0 from rfl] at hf9_1)
          (try simp only [Nat.reduceMul, Nat.zero_mul, Nat.zero_add, Nat.reduceAdd] at hf9_1)
          (try rw [show ((0 : Int)).toNat = 0 from rfl] at hx9_2)
          (try simp only [Nat.reduceMul, Nat.zero_mul, Nat.zero_add, Nat.reduceAdd] at hx9_2)
          (try rw [show ((0 : Int)).toNat = 0 from rfl] at hf9_2)
          (try simp only [Nat.reduceMul, Nat.zero_mul, Nat.zero_add, Nat.reduceAdd] at hf9_2)
          (try rw [show ((0 : Int)).toNat = 0 from rfl] at hx9_3)
          (try simp only [Nat.reduceMul, Nat.zero_mul, Nat.zero_add, Nat.reduceAdd] at hx9_3)
          (try rw [show ((0 : Int)).toNat = 0 from rfl] at hf9_3)
          (try simp only [Nat.reduceMul, Nat.zero_mul, Nat.zero_add, Nat.reduceAdd] at hf9_3)
          (try rw [show ((0 : Int)).toNat = 0 from rfl] at hx9_4)
          (try simp only [Nat.reduceMul, Nat.zero_mul, Nat.zero_add, Nat.reduceAdd] at hx9_4)
          (try rw [show ((0 : Int)).toNat = 0 from rfl] at hf9_4)
          (try simp only [Nat.reduceMul, Nat.zero_mul, Nat.zero_add, Nat.reduceAdd] at hf9_4)
          (try rw [show ((0 : Int)).toNat = 0 from rfl] at hx9_5)
          (try simp only [Nat.reduceMul, Nat.zero_mul, Nat.zero_add, Nat.reduceAdd] at hx9_5)
          (try rw [show ((0 : Int)).toNat = 0 from rfl] at hf9_5)
          (try simp only [Nat.reduceMul, Nat.zero_mul, Nat.zero_add, Nat.reduceAdd] at hf9_5)
          (try rw [show ((0 : Int)).toNat = 0 from rfl] at hx9_6)
          (try simp only [Nat.reduceMul, Nat.zero_mul, Nat.zero_add, Nat.reduceAdd] at hx9_6)
          (try rw [show ((0 : Int)).toNat = 0 from rfl] at hf9_6)
          (try simp only [Nat.reduceMul, Nat.zero_mul, Nat.zero_add, Nat.reduceAdd] at hf9_6)
          (try rw [show ((0 : Int)).toNat = 0 from rfl] at hx9_7)
          (try simp only [Nat.reduceMul, Nat.zero_mul, Nat.zero_add, Nat.reduceAdd] at hx9_7)
          (try rw [show ((0 : Int)).toNat = 0 from rfl] at hf9_7)
          (try simp only [Nat.reduceMul, Nat.zero_mul, Nat.zero_add, Nat.reduceAdd] at hf9_7)
          (try rw [show ((0 : Int)).toNat = 0 from rfl] at hx9_8)
          (try simp only [Nat.reduceMul, Nat.zero_mul, Nat.zero_add, Nat.reduceAdd] at hx9_8)
          (try rw [show ((0 : Int)).toNat = 0 from rfl] at hf9_8)
          (try simp only [Nat.reduceMul, Nat.zero_mul, Nat.zero_add, Nat.reduceAdd] at hf9_8)
          (try rw [show ((0 : Int)).toNat = 0 from rfl] at hx9_9)
          (try simp only [Nat.reduceMul, Nat.zero_mul, Nat.zero_add, Nat.reduceAdd] at hx9_9)
          (try rw [show ((0 : Int)).toNat = 0 from rfl] at hf9_9)
          (try simp only [Nat.reduceMul, Nat.zero_mul, Nat.zero_add, Nat.reduceAdd] at hf9_9)
          replace p9 := eq_true p9
          replace q9 := eq_true q9
          have HX22 := Aside0.mk (show Kd.R k45 45 w20 w.heap.size (fun _ => True) (.slice (some ⟨go9, 0, none⟩) y357.length co16) y357 from (by (with_reducible repeat (first | apply Kd.R_alloc | apply Kd.R_drewN | apply Kd.R_drew)); exact HO359.out))
          obtain ⟨ce22, hcl22, hM22, hcc22, hfr22⟩ := Kd.R_elem HX22.out z45 (0 : Int) (by omega) (by have h_ : (0 : Int) < ((y357.length : Int) : Int) := of_decide_eq_true (by first | (with_reducible assumption) | assumption); first | exact h_ | (have e_ := (Kd.R_reads' HO359.out).1; omega) | simpa using h_)
          obtain rfl := k45_openM hM22
          have HP22 := Kd.R_seg HX22.out (0 : Int) (by omega) (by have h_ : (0 : Int) < ((y357.length : Int) : Int) := of_decide_eq_true (by first | (with_reducible assumption) | assumption); first | exact h_ | (have e_ := (Kd.R_reads' HO359.out).1; omega) | simpa using h_) (seg := [.string (⟨#[]⟩ : ByteArray)]) (j := 5) hcl22 hcc22 (show 6 ≤ 10 from by decide) (x' := (⟨(rd_T45 y357 0).f0, (rd_T45 y357 0).f1, (rd_T45 y357 0).f2, (rd_T45 y357 0).f3, (rd_T45 y357 0).f4, (⟨#[]⟩ : ByteArray), (rd_T45 y357 0).f6, (rd_T45 y357 0).f7, (rd_T45 y357 0).f8, (rd_T45 y357 0).f9⟩ : S45)) (k45_mkM _ _ _ (⟨(rd_T45 y357 0).f0, (rd_T45 y357 0).f1, (rd_T45 y357 0).f2, (rd_T45 y357 0).f3, (rd_T45 y357 0).f4, (⟨#[]⟩ : ByteArray), (rd_T45 y357 0).f6, (rd_T45 y357 0).f7, (rd_T45 y357 0).f8, (rd_T45 y357 0).f9⟩ : S45) ) (fun _ hk => hk)
          have hx22_5 := hcc22 5 _ rfl
          (try simp only [show (k45).sz = 10 from rfl, Nat.mul_one, Nat.add_zero] at hx22_5)
          (try rw [show ((0 : Int)).toNat = 0 from rfl] at hx22_5)
          (try simp only [Nat.reduceMul, Nat.zero_mul, Nat.zero_add, Nat.reduceAdd] at hx22_5)
          have hf22_5 := hfr22 5
          (try simp only [show (k45).sz = 10 from rfl, Nat.mul_one, Nat.add_zero] at hf22_5)
          (try rw [show ((0 : Int)).toNat = 0 from rfl] at hf22_5)
          (try simp only [Nat.reduceMul, Nat.zero_mul, Nat.zero_add, Nat.reduceAdd] at hf22_5)
          clear hcl22 hcc22 hfr22 hM22
          go_wp2_with (first | ((with_reducible refine gate_store (t := 9) (p := 39) rfl ?_); refine store_event (t := 9) (p := 39) (v := ?vo_w23) (w1 := (w20.setCell ⟨go9, 5, none⟩ (.string (⟨#[]⟩ : ByteArray)))) ?hg ?ho ?hn ?hr ?_; (case ho => rfl); (case hg => rfl); (case hn => rfl); (case hr => first | (go_simp; done) | (go_simp; rfl)); intro w23 hw; have hg : w20.grownBy w23 (some go9) := (by rw [hw]; exact HP22.2); have hp_ : Kd.R k45 45 w23 w.heap.size (fun _ => True) (.slice (some ⟨go9, 0, none⟩) y357.length co16) y362 := (by rw [hw, Ny362.out]; exact HP22.1); clear HP22; have n0_ := Aside0.mk (Kd.R_over' (v := (.slice (some ⟨go9, 0, none⟩) y357.length co16)) (by (with_reducible repeat (first | apply Kd.R_alloc | apply Kd.R_drewN | apply Kd.R_drew)); exact HO356.out) (Kd.R_typed HO359.out) (by decide) hg); have n1_ := Aside0.mk (hp_); have n2_ := Aside0.mk (blk_grown (g := gb360) (o := .cells #[.slice Ao17 y354.length co17, .slice (some ⟨go9, 0, none⟩) y357.length co16] 25 (0, 0)) (by (with_reducible repeat (first | refine blk_drewN ?_ _ | refine blk_drew ?_ | refine blk_alloc ?_ _)); exact BK360.out) hg (Kd.R_ne HO359.out BK360.out (by decide))); have n3_ := Aside0.mk ((by rw [hw]; exact below_set (HB.out) GB9.out : Below w.heap.size w w23)); clear HO356; clear HO359; clear BK360; clear HB; have HO356 := n0_; have HO359 := n1_; have BK360 := n2_; have HB := n3_; clear n0_ n1_ n2_ n3_; clear hg hw hp_; have hcz24_0 : w23.cell? ⟨gb360, 0, none⟩ = some (.slice Ao17 y354.length co17) := (blk_cell BK360.out 0).trans rfl; have hcz24_1 : w23.cell? ⟨gb360, 1, none⟩ = some (.slice (some ⟨go9, 0, none⟩) y357.length co16) := (blk_cell BK360.out 1).trans rfl; have hfz24_0 := blk_frozen BK360.out 0; have hfz24_1 := blk_frozen BK360.out 1) | ((with_reducible refine gate_callee (f := 20) rfl ?_); refine goesL_ (some 165) rfl rfl Tryd.func20 (by kernel_rfl) rfl #[.agg #[.slice Ao17 y354.length co17, .slice (some ⟨go9, 0, none⟩) y362.length co16]] rfl (by (try simp only [List.map_toArray, List.map_cons, List.map_nil]); first | done | (rw [show y362.length = y357.length from (Kd.R_reads' HO359.out).1.symm] <;> rfl) | rfl | (simp only [List.length_drop, List.length_take]; rfl)) ?_; (with_reducible refine (tree_May.calls k _ _ y354 _ _ y362 t363 _ ?side1 ?side2 ?side3 ?side4 A10.out).mono ?_); (case side1 => repeat (first | (with_reducible refine Kd.C_alloc ?_ _) | (with_reducible refine Kd.C_drewN ?_ _) | (with_reducible refine Kd.C_drew ?_) | exact (Kd.R_reads' HO356.out).2.2)); (case side2 => exact (Kd.R_reads' HO356.out).2.1); (case side3 => repeat (first | (with_reducible refine Kd.C_alloc ?_ _) | (with_reducible refine Kd.C_drewN ?_ _) | (with_reducible refine Kd.C_drew ?_) | exact (Kd.R_reads' HO359.out).2.2)); (case side4 => rw [show y362.length = y357.length from (Kd.R_reads' HO359.out).1.symm]; exact (Kd.R_reads' HO359.out).2.1); rintro e w25 ⟨rfl, hb⟩; refine ⟨_, rfl, ?_⟩; have n0_ := Aside0.mk (Kd.R_below (by (with_reducible repeat (first | apply Kd.R_alloc | apply Kd.R_drewN | apply Kd.R_drew)); exact HO356.out) hb); have n1_ := Aside0.mk (Kd.R_below (by (with_reducible repeat (first | apply Kd.R_alloc | apply Kd.R_drewN | apply Kd.R_drew)); exact HO359.out) hb); have n2_ := Aside0.mk (blk_below (g := gb360) (o := .cells #[.slice Ao17 y354.length co17, .slice (some ⟨go9, 0, none⟩) y357.length co16] 25 (0, 0)) (by (with_reducible repeat (first | refine blk_drewN ?_ _ | refine blk_drew ?_ | refine blk_alloc ?_ _)); exact BK360.out) hb); have n3_ := Aside0.mk (below_step (by repeat (first | (with_reducible first | exact HB.out | apply below_alloc | apply pw_below_drewN | apply below_drew1 | refine below_set ?_ GE360.out) | exact HB.out)) hb); clear HO356; clear HO359; clear BK360; clear HB; have HO356 := n0_; have HO359 := n1_; have BK360 := n2_; have HB := n3_; clear n0_ n1_ n2_ n3_; (try clear hb); (try clear hb2); (try clear hk); (try clear hi)))
          go_ret
          exact ⟨by first | rfl | (simp [errW_none, errW_some] <;> rfl) | (simp [*, errW_none, errW_some] <;> rfl), by repeat (first | (with_reducible first | exact HB.out | apply below_alloc | apply pw_below_drewN | apply below_drew1 | refine below_set ?_ GE360.out) | exact HB.out)⟩
        · rw [if_neg c8] at H
          exact absurd H (by simp)
      · rw [if_neg c7] at H
        have c7b0 : ((Int.tmod (IntKind.u64.wrap (a0)) 20) == 0) = false := beq_eq_false_iff_ne.mpr c7
        have c7b1 : ((Int.tmod (IntKind.u64.wrap (a0)) 20) != 0) = true := bne_iff_ne.mpr c7
        by_cases c26 : (Int.tmod (IntKind.u64.wrap (a0)) 20) = 1
        · rw [if_pos c26] at H
          have c26b0 : ((Int.tmod (IntKind.u64.wrap (a0)) 20) == 1) = true := beq_iff_eq.mpr c26
          have c26b1 : ((Int.tmod (IntKind.u64.wrap (a0)) 20) != 1) = false := bne_eq_false_iff_eq.mpr c26
          clear c26
          by_cases c27 : 0 < (y357.length : Int)
          · rw [if_pos c27] at H
            have c27b0 : decide (0 < (y357.length : Int)) = true := decide_eq_true c27
            have c27b1 : decide (0 < y357.length) = true := decide_eq_true (by omega)
            clear c27
            obtain ⟨y364, hy364⟩ : ∃ y_ : List (S45), y_ = (y357.set (0 : Int).toNat (⟨(rd_T45 y357 0).f0, (rd_T45 y357 0).f1, (rd_T45 y357 0).f2, (rd_T45 y357 0).f3, (rd_T45 y357 0).f4, (⟨#[101, 110, 100]⟩ : ByteArray), (rd_T45 y357 0).f6, (rd_T45 y357 0).f7, (rd_T45 y357 0).f8, (rd_T45 y357 0).f9⟩ : S45)) := ⟨_, rfl⟩
            first | rw [Option.bind_some, ← hy364] at H | rw [← hy364] at H
            (try dsimp only at H)
            have Ny364 := Aside0.mk hy364
            clear hy364
            replace H := Option.bind_eq_some_iff.mp H
            obtain ⟨t365, A290, H⟩ := H
            (try dsimp only at H)
            have A29 := Aside0.mk A290
            clear A290
            obtain rfl := Option.some.inj H
            have hcz40_0 : w20.cell? ⟨gb360, 0, none⟩ = some (.slice Ao17 y354.length co17) := (blk_cell BK360.out 0).trans rfl
            have hcz40_1 : w20.cell? ⟨gb360, 1, none⟩ = some (.slice Ao16 y357.length co16) := (blk_cell BK360.out 1).trans rfl
            have hfz40_0 := blk_frozen BK360.out 0
            have hfz40_1 := blk_frozen BK360.out 1
            have p28 : 0 ≤ (0 : Int) := (by omega)
            have q28 : (0 : Int) < ((y357.length : Int) : Int) := of_decide_eq_true (by first | (with_reducible assumption) | assumption)
            have qi28 : (0 < y357.length) = True := eq_true (by omega)
            obtain ⟨go28, co28, eo28, gb28, gl28, cl28, HG28⟩ := Kd.R_form HO359.out (by omega)
            (first | cases eo28 | (injection eo28 with ea_ en_ ec_; (first | subst ea_ | (injection ea_ with ea_; subst ea_)); subst ec_; clear en_))
            have GB28 := Aside0.mk gb28
            have GG28 := Aside0.mk HG28
            clear gb28 gl28 HG28
            obtain ⟨ce28, hcl28, hM28, hcc28, hfr28⟩ := Kd.R_elem HO359.out z45 (0 : Int) p28 q28
            obtain rfl := k45_openM hM28
            have hx28_0 : w20.cell? ⟨go28, (0 : Int).toNat * 10, none⟩ = some (.int .i64 ((rd_T45 y357 0).f0)) := hcc28 0 _ rfl
            have hx28_1 : w20.cell? ⟨go28, (0 : Int).toNat * 10 + 1, none⟩ = some (.int .i64 ((rd_T45 y357 0).f1)) := hcc28 1 _ rfl
            have hx28_2 : w20.cell? ⟨go28, (0 : Int).toNat * 10 + 2, none⟩ = some (.int .i64 ((rd_T45 y357 0).f2)) := hcc28 2 _ rfl
            have hx28_3 : w20.cell? ⟨go28, (0 : Int).toNat * 10 + 3, none⟩ = some (.int .i64 ((rd_T45 y357 0).f3)) := hcc28 3 _ rfl
            have hx28_4 : w20.cell? ⟨go28, (0 : Int).toNat * 10 + 4, none⟩ = some (.int .i64 ((rd_T45 y357 0).f4)) := hcc28 4 _ rfl
            have hx28_5 : w20.cell? ⟨go28, (0 : Int).toNat * 10 + 5, none⟩ = some (.string ((rd_T45 y357 0).f5)) := hcc28 5 _ rfl
            have hx28_6 : w20.cell? ⟨go28, (0 : Int).toNat * 10 + 6, none⟩ = some (.string ((rd_T45 y357 0).f6)) := hcc28 6 _ rfl
            have hx28_7 : w20.cell? ⟨go28, (0 : Int).toNat * 10 + 7, none⟩ = some (.string ((rd_T45 y357 0).f7)) := hcc28 7 _ rfl
            have hx28_8 : w20.cell? ⟨go28, (0 : Int).toNat * 10 + 8, none⟩ = some (.string ((rd_T45 y357 0).f8)) := hcc28 8 _ rfl
            have hx28_9 : w20.cell? ⟨go28, (0 : Int).toNat * 10 + 9, none⟩ = some (.int .i64 ((rd_T45 y357 0).f9)) := hcc28 9 _ rfl
            have hf28_0 : w20.frozen? ⟨go28, (0 : Int).toNat * 10, none⟩ = false := hfr28 0
            have hf28_1 : w20.frozen? ⟨go28, (0 : Int).toNat * 10 + 1, none⟩ = false := hfr28 1
            have hf28_2 : w20.frozen? ⟨go28, (0 : Int).toNat * 10 + 2, none⟩ = false := hfr28 2
            have hf28_3 : w20.frozen? ⟨go28, (0 : Int).toNat * 10 + 3, none⟩ = false := hfr28 3
            have hf28_4 : w20.frozen? ⟨go28, (0 : Int).toNat * 10 + 4, none⟩ = false := hfr28 4
            have hf28_5 : w20.frozen? ⟨go28, (0 : Int).toNat * 10 + 5, none⟩ = false := hfr28 5
            have hf28_6 : w20.frozen? ⟨go28, (0 : Int).toNat * 10 + 6, none⟩ = false := hfr28 6
            have hf28_7 : w20.frozen? ⟨go28, (0 : Int).toNat * 10 + 7, none⟩ = false := hfr28 7
            have hf28_8 : w20.frozen? ⟨go28, (0 : Int).toNat * 10 + 8, none⟩ = false := hfr28 8
            have hf28_9 : w20.frozen? ⟨go28, (0 : Int).toNat * 10 + 9, none⟩ = false := hfr28 9
            clear hcl28 hcc28 hfr28 hM28
            (try rw [show ((0 : Int)).toNat = 0 from rfl] at hx28_0)
            (try simp only [Nat.reduceMul, Nat.zero_mul, Nat.zero_add, Nat.reduceAdd] at hx28_0)
            (try rw [show ((0 : Int)).toNat = 0 from rfl] at hf28_0)
            (try simp only [Nat.reduceMul, Nat.zero_mul, Nat.zero_add, Nat.reduceAdd] at hf28_0)
            (try rw [show ((0 : Int)).toNat = 0 from rfl] at hx28_1)
            (try simp only [Nat.reduceMul, Nat.zero_mul, Nat.zero_add, Nat.reduceAdd] at hx28_1)
            (try rw [show ((0 : Int)).toNat = 0 from rfl] at hf28_1)
            (try simp only [Nat.reduceMul, Nat.zero_mul, Nat.zero_add, Nat.reduceAdd] at hf28_1)
            (try rw [show ((0 : Int)).toNat = 0 from rfl] at hx28_2)
            (try simp only [Nat.reduceMul, Nat.zero_mul, Nat.zero_add, Nat.reduceAdd] at hx28_2)
            (try rw [show ((0 : Int)).toNat = 0 from rfl] at hf28_2)
            (try simp only [Nat.reduceMul, Nat.zero_mul, Nat.zero_add, Nat.reduceAdd] at hf28_2)
            (try rw [show ((0 : Int)).toNat = 0 from rfl] at hx28_3)
            (try simp only [Nat.reduceMul, Nat.zero_mul, Nat.zero_add, Nat.reduceAdd] at hx28_3)
            (try rw [show ((0 : Int)).toNat = 0 from rfl] at hf28_3)
            (try simp only [Nat.reduceMul, Nat.zero_mul, Nat.zero_add, Nat.reduceAdd] at hf28_3)
            (try rw [show ((0 : Int)).toNat = 0 from rfl] at hx28_4)
            (try simp only [Nat.reduceMul, Nat.zero_mul, Nat.zero_add, Nat.reduceAdd] at hx28_4)
            (try rw [show ((0 : Int)).toNat = 0 from rfl] at hf28_4)
            (try simp only [Nat.reduceMul, Nat.zero_mul, Nat.zero_add, Nat.reduceAdd] at hf28_4)
            (try rw [show ((0 : Int)).toNat = 0 from rfl] at hx28_5)
            (try simp only [Nat.reduceMul, Nat.zero_mul, Nat.zero_add, Nat.reduceAdd] at hx28_5)
            (try rw [show ((0 : Int)).toNat = 0 from rfl] at hf28_5)
            (try simp only [Nat.reduceMul, Nat.zero_mul, Nat.zero_add, Nat.reduceAdd] at hf28_5)
            (try rw [show ((0 : Int)).toNat = 0 from rfl] at hx28_6)
            (try simp only [Nat.reduceMul, Nat.zero_mul, Nat.zero_add, Nat.reduceAdd] at hx28_6)
            (try rw [show ((0 : Int)).toNat = 0 from rfl] at hf28_6)
            (try simp only [Nat.reduceMul, Nat.zero_mul, Nat.zero_add, Nat.reduceAdd] at hf28_6)
            (try rw [show ((0 : Int)).toNat = 0 from rfl] at hx28_7)
            (try simp only [Nat.reduceMul, Nat.zero_mul, Nat.zero_add, Nat.reduceAdd] at hx28_7)
            (try rw [show ((0 : Int)).toNat = 0 from rfl] at hf28_7)
            (try simp only [Nat.reduceMul, Nat.zero_mul, Nat.zero_add, Nat.reduceAdd] at hf28_7)
            (try rw [show ((0 : Int)).toNat = 0 from rfl] at hx28_8)
            (try simp only [Nat.reduceMul, Nat.zero_mul, Nat.zero_add, Nat.reduceAdd] at hx28_8)
            (try rw [show ((0 : Int)).toNat = 0 from rfl] at hf28_8)
            (try simp only [Nat.reduceMul, Nat.zero_mul, Nat.zero_add, Nat.reduceAdd] at hf28_8)
            (try rw [show ((0 : Int)).toNat = 0 from rfl] at hx28_9)
            (try simp only [Nat.reduceMul, Nat.zero_mul, Nat.zero_add, Nat.reduceAdd] at hx28_9)
            (try rw [show ((0 : Int)).toNat = 0 from rfl] at hf28_9)
            (try simp only [Nat.reduceMul, Nat.zero_mul, Nat.zero_add, Nat.reduceAdd] at hf28_9)
            replace p28 := eq_true p28
            replace q28 := eq_true q28
            have HX41 := Aside0.mk (show Kd.R k45 45 w20 w.heap.size (fun _ => True) (.slice (some ⟨go28, 0, none⟩) y357.length co16) y357 from (by (with_reducible repeat (first | apply Kd.R_alloc | apply Kd.R_drewN | apply Kd.R_drew)); exact HO359.out))
            obtain ⟨ce41, hcl41, hM41, hcc41, hfr41⟩ := Kd.R_elem HX41.out z45 (0 : Int) (by omega) (by have h_ : (0 : Int) < ((y357.length : Int) : Int) := of_decide_eq_true (by first | (with_reducible assumption) | assumption); first | exact h_ | (have e_ := (Kd.R_reads' HO359.out).1; omega) | simpa using h_)
            obtain rfl := k45_openM hM41
            have HP41 := Kd.R_seg HX41.out (0 : Int) (by omega) (by have h_ : (0 : Int) < ((y357.length : Int) : Int) := of_decide_eq_true (by first | (with_reducible assumption) | assumption); first | exact h_ | (have e_ := (Kd.R_reads' HO359.out).1; omega) | simpa using h_) (seg := [.string (⟨#[101, 110, 100]⟩ : ByteArray)]) (j := 5) hcl41 hcc41 (show 6 ≤ 10 from by decide) (x' := (⟨(rd_T45 y357 0).f0, (rd_T45 y357 0).f1, (rd_T45 y357 0).f2, (rd_T45 y357 0).f3, (rd_T45 y357 0).f4, (⟨#[101, 110, 100]⟩ : ByteArray), (rd_T45 y357 0).f6, (rd_T45 y357 0).f7, (rd_T45 y357 0).f8, (rd_T45 y357 0).f9⟩ : S45)) (k45_mkM _ _ _ (⟨(rd_T45 y357 0).f0, (rd_T45 y357 0).f1, (rd_T45 y357 0).f2, (rd_T45 y357 0).f3, (rd_T45 y357 0).f4, (⟨#[101, 110, 100]⟩ : ByteArray), (rd_T45 y357 0).f6, (rd_T45 y357 0).f7, (rd_T45 y357 0).f8, (rd_T45 y357 0).f9⟩ : S45) ) (fun _ hk => hk)
            have hx41_5 := hcc41 5 _ rfl
            (try simp only [show (k45).sz = 10 from rfl, Nat.mul_one, Nat.add_zero] at hx41_5)
            (try rw [show ((0 : Int)).toNat = 0 from rfl] at hx41_5)
            (try simp only [Nat.reduceMul, Nat.zero_mul, Nat.zero_add, Nat.reduceAdd] at hx41_5)
            have hf41_5 := hfr41 5
            (try simp only [show (k45).sz = 10 from rfl, Nat.mul_one, Nat.add_zero] at hf41_5)
            (try rw [show ((0 : Int)).toNat = 0 from rfl] at hf41_5)
            (try simp only [Nat.reduceMul, Nat.zero_mul, Nat.zero_add, Nat.reduceAdd] at hf41_5)
            clear hcl41 hcc41 hfr41 hM41
            go_wp2_with (first | ((with_reducible refine gate_store (t := 9) (p := 45) rfl ?_); refine store_event (t := 9) (p := 45) (v := ?vo_w42) (w1 := (w20.setCell ⟨go28, 5, none⟩ (.string (⟨#[101, 110, 100]⟩ : ByteArray)))) ?hg ?ho ?hn ?hr ?_; (case ho => rfl); (case hg => rfl); (case hn => rfl); (case hr => first | (go_simp; done) | (go_simp; rfl)); intro w42 hw; have hg : w20.grownBy w42 (some go28) := (by rw [hw]; exact HP41.2); have hp_ : Kd.R k45 45 w42 w.heap.size (fun _ => True) (.slice (some ⟨go28, 0, none⟩) y357.length co16) y364 := (by rw [hw, Ny364.out]; exact HP41.1); clear HP41; have n0_ := Aside0.mk (Kd.R_over' (v := (.slice (some ⟨go28, 0, none⟩) y357.length co16)) (by (with_reducible repeat (first | apply Kd.R_alloc | apply Kd.R_drewN | apply Kd.R_drew)); exact HO356.out) (Kd.R_typed HO359.out) (by decide) hg); have n1_ := Aside0.mk (hp_); have n2_ := Aside0.mk (blk_grown (g := gb360) (o := .cells #[.slice Ao17 y354.length co17, .slice (some ⟨go28, 0, none⟩) y357.length co16] 25 (0, 0)) (by (with_reducible repeat (first | refine blk_drewN ?_ _ | refine blk_drew ?_ | refine blk_alloc ?_ _)); exact BK360.out) hg (Kd.R_ne HO359.out BK360.out (by decide))); have n3_ := Aside0.mk ((by rw [hw]; exact below_set (HB.out) GB28.out : Below w.heap.size w w42)); clear HO356; clear HO359; clear BK360; clear HB; have HO356 := n0_; have HO359 := n1_; have BK360 := n2_; have HB := n3_; clear n0_ n1_ n2_ n3_; clear hg hw hp_; have hcz43_0 : w42.cell? ⟨gb360, 0, none⟩ = some (.slice Ao17 y354.length co17) := (blk_cell BK360.out 0).trans rfl; have hcz43_1 : w42.cell? ⟨gb360, 1, none⟩ = some (.slice (some ⟨go28, 0, none⟩) y357.length co16) := (blk_cell BK360.out 1).trans rfl; have hfz43_0 := blk_frozen BK360.out 0; have hfz43_1 := blk_frozen BK360.out 1) | ((with_reducible refine gate_callee (f := 20) rfl ?_); refine goesL_ (some 165) rfl rfl Tryd.func20 (by kernel_rfl) rfl #[.agg #[.slice Ao17 y354.length co17, .slice (some ⟨go28, 0, none⟩) y364.length co16]] rfl (by (try simp only [List.map_toArray, List.map_cons, List.map_nil]); first | done | (rw [show y364.length = y357.length from (Kd.R_reads' HO359.out).1.symm] <;> rfl) | rfl | (simp only [List.length_drop, List.length_take]; rfl)) ?_; (with_reducible refine (tree_May.calls k _ _ y354 _ _ y364 t365 _ ?side1 ?side2 ?side3 ?side4 A29.out).mono ?_); (case side1 => repeat (first | (with_reducible refine Kd.C_alloc ?_ _) | (with_reducible refine Kd.C_drewN ?_ _) | (with_reducible refine Kd.C_drew ?_) | exact (Kd.R_reads' HO356.out).2.2)); (case side2 => exact (Kd.R_reads' HO356.out).2.1); (case side3 => repeat (first | (with_reducible refine Kd.C_alloc ?_ _) | (with_reducible refine Kd.C_drewN ?_ _) | (with_reducible refine Kd.C_drew ?_) | exact (Kd.R_reads' HO359.out).2.2)); (case side4 => rw [show y364.length = y357.length from (Kd.R_reads' HO359.out).1.symm]; exact (Kd.R_reads' HO359.out).2.1); rintro e w44 ⟨rfl, hb⟩; refine ⟨_, rfl, ?_⟩; have n0_ := Aside0.mk (Kd.R_below (by (with_reducible repeat (first | apply Kd.R_alloc | apply Kd.R_drewN | apply Kd.R_drew)); exact HO356.out) hb); have n1_ := Aside0.mk (Kd.R_below (by (with_reducible repeat (first | apply Kd.R_alloc | apply Kd.R_drewN | apply Kd.R_drew)); exact HO359.out) hb); have n2_ := Aside0.mk (blk_below (g := gb360) (o := .cells #[.slice Ao17 y354.length co17, .slice (some ⟨go28, 0, none⟩) y357.length co16] 25 (0, 0)) (by (with_reducible repeat (first | refine blk_drewN ?_ _ | refine blk_drew ?_ | refine blk_alloc ?_ _)); exact BK360.out) hb); have n3_ := Aside0.mk (below_step (by repeat (first | (with_reducible first | exact HB.out | apply below_alloc | apply pw_below_drewN | apply below_drew1 | refine below_set ?_ GE360.out) | exact HB.out)) hb); clear HO356; clear HO359; clear BK360; clear HB; have HO356 := n0_; have HO359 := n1_; have BK360 := n2_; have HB := n3_; clear n0_ n1_ n2_ n3_; (try clear hb); (try clear hb2); (try clear hk); (try clear hi)))
            go_ret
            exact ⟨by first | rfl | (simp [errW_none, errW_some] <;> rfl) | (simp [*, errW_none, errW_some] <;> rfl), by repeat (first | (with_reducible first | exact HB.out | apply below_alloc | apply pw_below_drewN | apply below_drew1 | refine below_set ?_ GE360.out) | exact HB.out)⟩
          · rw [if_neg c27] at H
            exact absurd H (by simp)
        · rw [if_neg c26] at H
          have c26b0 : ((Int.tmod (IntKind.u64.wrap (a0)) 20) == 1) = false := beq_eq_false_iff_ne.mpr c26
          have c26b1 : ((Int.tmod (IntKind.u64.wrap (a0)) 20) != 1) = true := bne_iff_ne.mpr c26
          by_cases c45 : (Int.tmod (IntKind.u64.wrap (a0)) 20) = 2
          · rw [if_pos c45] at H
            have c45b0 : ((Int.tmod (IntKind.u64.wrap (a0)) 20) == 2) = true := beq_iff_eq.mpr c45
            have c45b1 : ((Int.tmod (IntKind.u64.wrap (a0)) 20) != 2) = false := bne_eq_false_iff_eq.mpr c45
            clear c45
            by_cases c46 : 0 < (y357.length : Int)
            · rw [if_pos c46] at H
              have c46b0 : decide (0 < (y357.length : Int)) = true := decide_eq_true c46
              have c46b1 : decide (0 < y357.length) = true := decide_eq_true (by omega)
              clear c46
              obtain ⟨y366, hy366⟩ : ∃ y_ : List (S45), y_ = (y357.set (0 : Int).toNat (⟨(rd_T45 y357 0).f0, (rd_T45 y357 0).f1, (rd_T45 y357 0).f2, (rd_T45 y357 0).f3, wrap64 (1 + (Go.bits .and .i64 a1 1023)), (rd_T45 y357 0).f5, (rd_T45 y357 0).f6, (rd_T45 y357 0).f7, (rd_T45 y357 0).f8, (rd_T45 y357 0).f9⟩ : S45)) := ⟨_, rfl⟩
              first | rw [Option.bind_some, ← hy366] at H | rw [← hy366] at H
              (try dsimp only at H)
              have Ny366 := Aside0.mk hy366
              clear hy366
              replace H := Option.bind_eq_some_iff.mp H
              obtain ⟨t367, A480, H⟩ := H
              (try dsimp only at H)
              have A48 := Aside0.mk A480
              clear A480
              obtain rfl := Option.some.inj H
              have hcz59_0 : w20.cell? ⟨gb360, 0, none⟩ = some (.slice Ao17 y354.length co17) := (blk_cell BK360.out 0).trans rfl
              have hcz59_1 : w20.cell? ⟨gb360, 1, none⟩ = some (.slice Ao16 y357.length co16) := (blk_cell BK360.out 1).trans rfl
              have hfz59_0 := blk_frozen BK360.out 0
              have hfz59_1 := blk_frozen BK360.out 1
              have p47 : 0 ≤ (0 : Int) := (by omega)
              have q47 : (0 : Int) < ((y357.length : Int) : Int) := of_decide_eq_true (by first | (with_reducible assumption) | assumption)
              have qi47 : (0 < y357.length) = True := eq_true (by omega)
              obtain ⟨go47, co47, eo47, gb47, gl47, cl47, HG47⟩ := Kd.R_form HO359.out (by omega)
              (first | cases eo47 | (injection eo47 with ea_ en_ ec_; (first | subst ea_ | (injection ea_ with ea_; subst ea_)); subst ec_; clear en_))
              have GB47 := Aside0.mk gb47
              have GG47 := Aside0.mk HG47
              clear gb47 gl47 HG47
              obtain ⟨ce47, hcl47, hM47, hcc47, hfr47⟩ := Kd.R_elem HO359.out z45 (0 : Int) p47 q47
              obtain rfl := k45_openM hM47
              have hx47_0 : w20.cell? ⟨go47, (0 : Int).toNat * 10, none⟩ = some (.int .i64 ((rd_T45 y357 0).f0)) := hcc47 0 _ rfl
              have hx47_1 : w20.cell? ⟨go47, (0 : Int).toNat * 10 + 1, none⟩ = some (.int .i64 ((rd_T45 y357 0).f1)) := hcc47 1 _ rfl
              have hx47_2 : w20.cell? ⟨go47, (0 : Int).toNat * 10 + 2, none⟩ = some (.int .i64 ((rd_T45 y357 0).f2)) := hcc47 2 _ rfl
              have hx47_3 : w20.cell? ⟨go47, (0 : Int).toNat * 10 + 3, none⟩ = some (.int .i64 ((rd_T45 y357 0).f3)) := hcc47 3 _ rfl
              have hx47_4 : w20.cell? ⟨go47, (0 : Int).toNat * 10 + 4, none⟩ = some (.int .i64 ((rd_T45 y357 0).f4)) := hcc47 4 _ rfl
              have hx47_5 : w20.cell? ⟨go47, (0 : Int).toNat * 10 + 5, none⟩ = some (.string ((rd_T45 y357 0).f5)) := hcc47 5 _ rfl
              have hx47_6 : w20.cell? ⟨go47, (0 : Int).toNat * 10 + 6, none⟩ = some (.string ((rd_T45 y357 0).f6)) := hcc47 6 _ rfl
              have hx47_7 : w20.cell? ⟨go47, (0 : Int).toNat * 10 + 7, none⟩ = some (.string ((rd_T45 y357 0).f7)) := hcc47 7 _ rfl
              have hx47_8 : w20.cell? ⟨go47, (0 : Int).toNat * 10 + 8, none⟩ = some (.string ((rd_T45 y357 0).f8)) := hcc47 8 _ rfl
              have hx47_9 : w20.cell? ⟨go47, (0 : Int).toNat * 10 + 9, none⟩ = some (.int .i64 ((rd_T45 y357 0).f9)) := hcc47 9 _ rfl
              have hf47_0 : w20.frozen? ⟨go47, (0 : Int).toNat * 10, none⟩ = false := hfr47 0
              have hf47_1 : w20.frozen? ⟨go47, (0 : Int).toNat * 10 + 1, none⟩ = false := hfr47 1
              have hf47_2 : w20.frozen? ⟨go47, (0 : Int).toNat * 10 + 2, none⟩ = false := hfr47 2
              have hf47_3 : w20.frozen? ⟨go47, (0 : Int).toNat * 10 + 3, none⟩ = false := hfr47 3
              have hf47_4 : w20.frozen? ⟨go47, (0 : Int).toNat * 10 + 4, none⟩ = false := hfr47 4
              have hf47_5 : w20.frozen? ⟨go47, (0 : Int).toNat * 10 + 5, none⟩ = false := hfr47 5
              have hf47_6 : w20.frozen? ⟨go47, (0 : Int).toNat * 10 + 6, none⟩ = false := hfr47 6
              have hf47_7 : w20.frozen? ⟨go47, (0 : Int).toNat * 10 + 7, none⟩ = false := hfr47 7
              have hf47_8 : w20.frozen? ⟨go47, (0 : Int).toNat * 10 + 8, none⟩ = false := hfr47 8
              have hf47_9 : w20.frozen? ⟨go47, (0 : Int).toNat * 10 + 9, none⟩ = false := hfr47 9
              clear hcl47 hcc47 hfr47 hM47
              (try rw [show ((0 : Int)).toNat = 0 from rfl] at hx47_0)
              (try simp only [Nat.reduceMul, Nat.zero_mul, Nat.zero_add, Nat.reduceAdd] at hx47_0)
              (try rw [show ((0 : Int)).toNat = 0 from rfl] at hf47_0)
              (try simp only [Nat.reduceMul, Nat.zero_mul, Nat.zero_add, Nat.reduceAdd] at hf47_0)
              (try rw [show ((0 : Int)).toNat = 0 from rfl] at hx47_1)
              (try simp only [Nat.reduceMul, Nat.zero_mul, Nat.zero_add, Nat.reduceAdd] at hx47_1)
              (try rw [show ((0 : Int)).toNat = 0 from rfl] at hf47_1)
              (try simp only [Nat.reduceMul, Nat.zero_mul, Nat.zero_add, Nat.reduceAdd] at hf47_1)
              (try rw [show ((0 : Int)).toNat = 0 from rfl] at hx47_2)
              (try simp only [Nat.reduceMul, Nat.zero_mul, Nat.zero_add, Nat.reduceAdd] at hx47_2)
              (try rw [show ((0 : Int)).toNat = 0 from rfl] at hf47_2)
              (try simp only [Nat.reduceMul, Nat.zero_mul, Nat.zero_add, Nat.reduceAdd] at hf47_2)
              (try rw [show ((0 : Int)).toNat = 0 from rfl] at hx47_3)
              (try simp only [Nat.reduceMul, Nat.zero_mul, Nat.zero_add, Nat.reduceAdd] at hx47_3)
              (try rw [show ((0 : Int)).toNat = 0 from rfl] at hf47_3)
              (try simp only [Nat.reduceMul, Nat.zero_mul, Nat.zero_add, Nat.reduceAdd] at hf47_3)
              (try rw [show ((0 : Int)).toNat = 0 from rfl] at hx47_4)
              (try simp only [Nat.reduceMul, Nat.zero_mul, Nat.zero_add, Nat.reduceAdd] at hx47_4)
              (try rw [show ((0 : Int)).toNat = 0 from rfl] at hf47_4)
              (try simp only [Nat.reduceMul, Nat.zero_mul, Nat.zero_add, Nat.reduceAdd] at hf47_4)
              (try rw [show ((0 : Int)).toNat = 0 from rfl] at hx47_5)
              (try simp only [Nat.reduceMul, Nat.zero_mul, Nat.zero_add, Nat.reduceAdd] at hx47_5)
              (try rw [show ((0 : Int)).toNat = 0 from rfl] at hf47_5)
              (try simp only [Nat.reduceMul, Nat.zero_mul, Nat.zero_add, Nat.reduceAdd] at hf47_5)
              (try rw [show ((0 : Int)).toNat = 0 from rfl] at hx47_6)
              (try simp only [Nat.reduceMul, Nat.zero_mul, Nat.zero_add, Nat.reduceAdd] at hx47_6)
              (try rw [show ((0 : Int)).toNat = 0 from rfl] at hf47_6)
              (try simp only [Nat.reduceMul, Nat.zero_mul, Nat.zero_add, Nat.reduceAdd] at hf47_6)
              (try rw [show ((0 : Int)).toNat = 0 from rfl] at hx47_7)
              (try simp only [Nat.reduceMul, Nat.zero_mul, Nat.zero_add, Nat.reduceAdd] at hx47_7)
              (try rw [show ((0 : Int)).toNat = 0 from rfl] at hf47_7)
              (try simp only [Nat.reduceMul, Nat.zero_mul, Nat.zero_add, Nat.reduceAdd] at hf47_7)
              (try rw [show ((0 : Int)).toNat = 0 from rfl] at hx47_8)
              (try simp only [Nat.reduceMul, Nat.zero_mul, Nat.zero_add, Nat.reduceAdd] at hx47_8)
              (try rw [show ((0 : Int)).toNat = 0 from rfl] at hf47_8)
              (try simp only [Nat.reduceMul, Nat.zero_mul, Nat.zero_add, Nat.reduceAdd] at hf47_8)
              (try rw [show ((0 : Int)).toNat = 0 from rfl] at hx47_9)
              (try simp only [Nat.reduceMul, Nat.zero_mul, Nat.zero_add, Nat.reduceAdd] at hx47_9)
              (try rw [show ((0 : Int)).toNat = 0 from rfl] at hf47_9)
              (try simp only [Nat.reduceMul, Nat.zero_mul, Nat.zero_add, Nat.reduceAdd] at hf47_9)
              replace p47 := eq_true p47
              replace q47 := eq_true q47
              have HX60 := Aside0.mk (show Kd.R k45 45 w20 w.heap.size (fun _ => True) (.slice (some ⟨go47, 0, none⟩) y357.length co16) y357 from (by (with_reducible repeat (first | apply Kd.R_alloc | apply Kd.R_drewN | apply Kd.R_drew)); exact HO359.out))
              obtain ⟨ce60, hcl60, hM60, hcc60, hfr60⟩ := Kd.R_elem HX60.out z45 (0 : Int) (by omega) (by have h_ : (0 : Int) < ((y357.length : Int) : Int) := of_decide_eq_true (by first | (with_reducible assumption) | assumption); first | exact h_ | (have e_ := (Kd.R_reads' HO359.out).1; omega) | simpa using h_)
              obtain rfl := k45_openM hM60
              have HP60 := Kd.R_seg HX60.out (0 : Int) (by omega) (by have h_ : (0 : Int) < ((y357.length : Int) : Int) := of_decide_eq_true (by first | (with_reducible assumption) | assumption); first | exact h_ | (have e_ := (Kd.R_reads' HO359.out).1; omega) | simpa using h_) (seg := [.int .i64 (wrap64 (1 + (Go.bits .and .i64 a1 1023)))]) (j := 4) hcl60 hcc60 (show 5 ≤ 10 from by decide) (x' := (⟨(rd_T45 y357 0).f0, (rd_T45 y357 0).f1, (rd_T45 y357 0).f2, (rd_T45 y357 0).f3, wrap64 (1 + (Go.bits .and .i64 a1 1023)), (rd_T45 y357 0).f5, (rd_T45 y357 0).f6, (rd_T45 y357 0).f7, (rd_T45 y357 0).f8, (rd_T45 y357 0).f9⟩ : S45)) (k45_mkM _ _ _ (⟨(rd_T45 y357 0).f0, (rd_T45 y357 0).f1, (rd_T45 y357 0).f2, (rd_T45 y357 0).f3, wrap64 (1 + (Go.bits .and .i64 a1 1023)), (rd_T45 y357 0).f5, (rd_T45 y357 0).f6, (rd_T45 y357 0).f7, (rd_T45 y357 0).f8, (rd_T45 y357 0).f9⟩ : S45) ) (fun _ hk => hk)
              have hx60_4 := hcc60 4 _ rfl
              (try simp only [show (k45).sz = 10 from rfl, Nat.mul_one, Nat.add_zero] at hx60_4)
              (try rw [show ((0 : Int)).toNat = 0 from rfl] at hx60_4)
              (try simp only [Nat.reduceMul, Nat.zero_mul, Nat.zero_add, Nat.reduceAdd] at hx60_4)
              have hf60_4 := hfr60 4
              (try simp only [show (k45).sz = 10 from rfl, Nat.mul_one, Nat.add_zero] at hf60_4)
              (try rw [show ((0 : Int)).toNat = 0 from rfl] at hf60_4)
              (try simp only [Nat.reduceMul, Nat.zero_mul, Nat.zero_add, Nat.reduceAdd] at hf60_4)
              clear hcl60 hcc60 hfr60 hM60
              go_wp2_with (first | ((with_reducible refine gate_store (t := 3) (p := 52) rfl ?_); refine store_event (t := 3) (p := 52) (v := ?vo_w61) (w1 := (w20.setCell ⟨go47, 4, none⟩ (.int .i64 (wrap64 (1 + (Go.bits .and .i64 a1 1023)))))) ?hg ?ho ?hn ?hr ?_; (case ho => rfl); (case hg => rfl); (case hn => rfl); (case hr => first | (go_simp; done) | (go_simp; rfl)); intro w61 hw; have hg : w20.grownBy w61 (some go47) := (by rw [hw]; exact HP60.2); have hp_ : Kd.R k45 45 w61 w.heap.size (fun _ => True) (.slice (some ⟨go47, 0, none⟩) y357.length co16) y366 := (by rw [hw, Ny366.out]; exact HP60.1); clear HP60; have n0_ := Aside0.mk (Kd.R_over' (v := (.slice (some ⟨go47, 0, none⟩) y357.length co16)) (by (with_reducible repeat (first | apply Kd.R_alloc | apply Kd.R_drewN | apply Kd.R_drew)); exact HO356.out) (Kd.R_typed HO359.out) (by decide) hg); have n1_ := Aside0.mk (hp_); have n2_ := Aside0.mk (blk_grown (g := gb360) (o := .cells #[.slice Ao17 y354.length co17, .slice (some ⟨go47, 0, none⟩) y357.length co16] 25 (0, 0)) (by (with_reducible repeat (first | refine blk_drewN ?_ _ | refine blk_drew ?_ | refine blk_alloc ?_ _)); exact BK360.out) hg (Kd.R_ne HO359.out BK360.out (by decide))); have n3_ := Aside0.mk ((by rw [hw]; exact below_set (HB.out) GB47.out : Below w.heap.size w w61)); clear HO356; clear HO359; clear BK360; clear HB; have HO356 := n0_; have HO359 := n1_; have BK360 := n2_; have HB := n3_; clear n0_ n1_ n2_ n3_; clear hg hw hp_; have hcz62_0 : w61.cell? ⟨gb360, 0, none⟩ = some (.slice Ao17 y354.length co17) := (blk_cell BK360.out 0).trans rfl; have hcz62_1 : w61.cell? ⟨gb360, 1, none⟩ = some (.slice (some ⟨go47, 0, none⟩) y357.length co16) := (blk_cell BK360.out 1).trans rfl; have hfz62_0 := blk_frozen BK360.out 0; have hfz62_1 := blk_frozen BK360.out 1) | ((with_reducible refine gate_callee (f := 20) rfl ?_); refine goesL_ (some 165) rfl rfl Tryd.func20 (by kernel_rfl) rfl #[.agg #[.slice Ao17 y354.length co17, .slice (some ⟨go47, 0, none⟩) y366.length co16]] rfl (by (try simp only [List.map_toArray, List.map_cons, List.map_nil]); first | done | (rw [show y366.length = y357.length from (Kd.R_reads' HO359.out).1.symm] <;> rfl) | rfl | (simp only [List.length_drop, List.length_take]; rfl)) ?_; (with_reducible refine (tree_May.calls k _ _ y354 _ _ y366 t367 _ ?side1 ?side2 ?side3 ?side4 A48.out).mono ?_); (case side1 => repeat (first | (with_reducible refine Kd.C_alloc ?_ _) | (with_reducible refine Kd.C_drewN ?_ _) | (with_reducible refine Kd.C_drew ?_) | exact (Kd.R_reads' HO356.out).2.2)); (case side2 => exact (Kd.R_reads' HO356.out).2.1); (case side3 => repeat (first | (with_reducible refine Kd.C_alloc ?_ _) | (with_reducible refine Kd.C_drewN ?_ _) | (with_reducible refine Kd.C_drew ?_) | exact (Kd.R_reads' HO359.out).2.2)); (case side4 => rw [show y366.length = y357.length from (Kd.R_reads' HO359.out).1.symm]; exact (Kd.R_reads' HO359.out).2.1); rintro e w63 ⟨rfl, hb⟩; refine ⟨_, rfl, ?_⟩; have n0_ := Aside0.mk (Kd.R_below (by (with_reducible repeat (first | apply Kd.R_alloc | apply Kd.R_drewN | apply Kd.R_drew)); exact HO356.out) hb); have n1_ := Aside0.mk (Kd.R_below (by (with_reducible repeat (first | apply Kd.R_alloc | apply Kd.R_drewN | apply Kd.R_drew)); exact HO359.out) hb); have n2_ := Aside0.mk (blk_below (g := gb360) (o := .cells #[.slice Ao17 y354.length co17, .slice (some ⟨go47, 0, none⟩) y357.length co16] 25 (0, 0)) (by (with_reducible repeat (first | refine blk_drewN ?_ _ | refine blk_drew ?_ | refine blk_alloc ?_ _)); exact BK360.out) hb); have n3_ := Aside0.mk (below_step (by repeat (first | (with_reducible first | exact HB.out | apply below_alloc | apply pw_below_drewN | apply below_drew1 | refine below_set ?_ GE360.out) | exact HB.out)) hb); clear HO356; clear HO359; clear BK360; clear HB; have HO356 := n0_; have HO359 := n1_; have BK360 := n2_; have HB := n3_; clear n0_ n1_ n2_ n3_; (try clear hb); (try clear hb2); (try clear hk); (try clear hi)))
              go_ret
              exact ⟨by first | rfl | (simp [errW_none, errW_some] <;> rfl) | (simp [*, errW_none, errW_some] <;> rfl), by repeat (first | (with_reducible first | exact HB.out | apply below_alloc | apply pw_below_drewN | apply below_drew1 | refine below_set ?_ GE360.out) | exact HB.out)⟩
            · rw [if_neg c46] at H
              exact absurd H (by simp)
          · rw [if_neg c45] at H
            have c45b0 : ((Int.tmod (IntKind.u64.wrap (a0)) 20) == 2) = false := beq_eq_false_iff_ne.mpr c45
            have c45b1 : ((Int.tmod (IntKind.u64.wrap (a0)) 20) != 2) = true := bne_iff_ne.mpr c45
            by_cases c64 : (Int.tmod (IntKind.u64.wrap (a0)) 20) = 3
            · rw [if_pos c64] at H
              have c64b0 : ((Int.tmod (IntKind.u64.wrap (a0)) 20) == 3) = true := beq_iff_eq.mpr c64
              have c64b1 : ((Int.tmod (IntKind.u64.wrap (a0)) 20) != 3) = false := bne_eq_false_iff_eq.mpr c64
              clear c64
              by_cases c65 : 0 < (y357.length : Int)
              · rw [if_pos c65] at H
                have c65b0 : decide (0 < (y357.length : Int)) = true := decide_eq_true c65
                have c65b1 : decide (0 < y357.length) = true := decide_eq_true (by omega)
                clear c65
                obtain ⟨y368, hy368⟩ : ∃ y_ : List (S45), y_ = (y357.set (0 : Int).toNat (⟨(rd_T45 y357 0).f0, (rd_T45 y357 0).f1, (rd_T45 y357 0).f2, (rd_T45 y357 0).f3, (rd_T45 y357 0).f4, (rd_T45 y357 0).f5, (⟨#[121]⟩ : ByteArray), (rd_T45 y357 0).f7, (rd_T45 y357 0).f8, (rd_T45 y357 0).f9⟩ : S45)) := ⟨_, rfl⟩
                first | rw [Option.bind_some, ← hy368] at H | rw [← hy368] at H
                (try dsimp only at H)
                have Ny368 := Aside0.mk hy368
                clear hy368
                replace H := Option.bind_eq_some_iff.mp H
                obtain ⟨t369, A670, H⟩ := H
                (try dsimp only at H)
                have A67 := Aside0.mk A670
                clear A670
                obtain rfl := Option.some.inj H
                have hcz78_0 : w20.cell? ⟨gb360, 0, none⟩ = some (.slice Ao17 y354.length co17) := (blk_cell BK360.out 0).trans rfl
                have hcz78_1 : w20.cell? ⟨gb360, 1, none⟩ = some (.slice Ao16 y357.length co16) := (blk_cell BK360.out 1).trans rfl
                have hfz78_0 := blk_frozen BK360.out 0
                have hfz78_1 := blk_frozen BK360.out 1
                have p66 : 0 ≤ (0 : Int) := (by omega)
                have q66 : (0 : Int) < ((y357.length : Int) : Int) := of_decide_eq_true (by first | (with_reducible assumption) | assumption)
                have qi66 : (0 < y357.length) = True := eq_true (by omega)
                obtain ⟨go66, co66, eo66, gb66, gl66, cl66, HG66⟩ := Kd.R_form HO359.out (by omega)
                (first | cases eo66 | (injection eo66 with ea_ en_ ec_; (first | subst ea_ | (injection ea_ with ea_; subst ea_)); subst ec_; clear en_))
                have GB66 := Aside0.mk gb66
                have GG66 := Aside0.mk HG66
                clear gb66 gl66 HG66
                obtain ⟨ce66, hcl66, hM66, hcc66, hfr66⟩ := Kd.R_elem HO359.out z45 (0 : Int) p66 q66
                obtain rfl := k45_openM hM66
                have hx66_0 : w20.cell? ⟨go66, (0 : Int).toNat * 10, none⟩ = some (.int .i64 ((rd_T45 y357 0).f0)) := hcc66 0 _ rfl
                have hx66_1 : w20.cell? ⟨go66, (0 : Int).toNat * 10 + 1, none⟩ = some (.int .i64 ((rd_T45 y357 0).f1)) := hcc66 1 _ rfl
                have hx66_2 : w20.cell? ⟨go66, (0 : Int).toNat * 10 + 2, none⟩ = some (.int .i64 ((rd_T45 y357 0).f2)) := hcc66 2 _ rfl
                have hx66_3 : w20.cell? ⟨go66, (0 : Int).toNat * 10 + 3, none⟩ = some (.int .i64 ((rd_T45 y357 0).f3)) := hcc66 3 _ rfl
                have hx66_4 : w20.cell? ⟨go66, (0 : Int).toNat * 10 + 4, none⟩ = some (.int .i64 ((rd_T45 y357 0).f4)) := hcc66 4 _ rfl
                have hx66_5 : w20.cell? ⟨go66, (0 : Int).toNat * 10 + 5, none⟩ = some (.string ((rd_T45 y357 0).f5)) := hcc66 5 _ rfl
                have hx66_6 : w20.cell? ⟨go66, (0 : Int).toNat * 10 + 6, none⟩ = some (.string ((rd_T45 y357 0).f6)) := hcc66 6 _ rfl
                have hx66_7 : w20.cell? ⟨go66, (0 : Int).toNat * 10 + 7, none⟩ = some (.string ((rd_T45 y357 0).f7)) := hcc66 7 _ rfl
                have hx66_8 : w20.cell? ⟨go66, (0 : Int).toNat * 10 + 8, none⟩ = some (.string ((rd_T45 y357 0).f8)) := hcc66 8 _ rfl
                have hx66_9 : w20.cell? ⟨go66, (0 : Int).toNat * 10 + 9, none⟩ = some (.int .i64 ((rd_T45 y357 0).f9)) := hcc66 9 _ rfl
                have hf66_0 : w20.frozen? ⟨go66, (0 : Int).toNat * 10, none⟩ = false := hfr66 0
                have hf66_1 : w20.frozen? ⟨go66, (0 : Int).toNat * 10 + 1, none⟩ = false := hfr66 1
                have hf66_2 : w20.frozen? ⟨go66, (0 : Int).toNat * 10 + 2, none⟩ = false := hfr66 2
                have hf66_3 : w20.frozen? ⟨go66, (0 : Int).toNat * 10 + 3, none⟩ = false := hfr66 3
                have hf66_4 : w20.frozen? ⟨go66, (0 : Int).toNat * 10 + 4, none⟩ = false := hfr66 4
                have hf66_5 : w20.frozen? ⟨go66, (0 : Int).toNat * 10 + 5, none⟩ = false := hfr66 5
                have hf66_6 : w20.frozen? ⟨go66, (0 : Int).toNat * 10 + 6, none⟩ = false := hfr66 6
                have hf66_7 : w20.frozen? ⟨go66, (0 : Int).toNat * 10 + 7, none⟩ = false := hfr66 7
                have hf66_8 : w20.frozen? ⟨go66, (0 : Int).toNat * 10 + 8, none⟩ = false := hfr66 8
                have hf66_9 : w20.frozen? ⟨go66, (0 : Int).toNat * 10 + 9, none⟩ = false := hfr66 9
                clear hcl66 hcc66 hfr66 hM66
                (try rw [show ((0 : Int)).toNat = 0 from rfl] at hx66_0)
                (try simp only [Nat.reduceMul, Nat.zero_mul, Nat.zero_add, Nat.reduceAdd] at hx66_0)
                (try rw [show ((0 : Int)).toNat = 0 from rfl] at hf66_0)
                (try simp only [Nat.reduceMul, Nat.zero_mul, Nat.zero_add, Nat.reduceAdd] at hf66_0)
                (try rw [show ((0 : Int)).toNat = 0 from rfl] at hx66_1)
                (try simp only [Nat.reduceMul, Nat.zero_mul, Nat.zero_add, Nat.reduceAdd] at hx66_1)
                (try rw [show ((0 : Int)).toNat = 0 from rfl] at hf66_1)
                (try simp only [Nat.reduceMul, Nat.zero_mul, Nat.zero_add, Nat.reduceAdd] at hf66_1)
                (try rw [show ((0 : Int)).toNat = 0 from rfl] at hx66_2)
                (try simp only [Nat.reduceMul, Nat.zero_mul, Nat.zero_add, Nat.reduceAdd] at hx66_2)
                (try rw [show ((0 : Int)).toNat = 0 from rfl] at hf66_2)
                (try simp only [Nat.reduceMul, Nat.zero_mul, Nat.zero_add, Nat.reduceAdd] at hf66_2)
                (try rw [show ((0 : Int)).toNat = 0 from rfl] at hx66_3)
                (try simp only [Nat.reduceMul, Nat.zero_mul, Nat.zero_add, Nat.reduceAdd] at hx66_3)
                (try rw [show ((0 : Int)).toNat = 0 from rfl] at hf66_3)
                (try simp only [Nat.reduceMul, Nat.zero_mul, Nat.zero_add, Nat.reduceAdd] at hf66_3)
                (try rw [show ((0 : Int)).toNat = 0 from rfl] at hx66_4)
                (try simp only [Nat.reduceMul, Nat.zero_mul, Nat.zero_add, Nat.reduceAdd] at hx66_4)
                (try rw [show ((0 : Int)).toNat = 0 from rfl] at hf66_4)
                (try simp only [Nat.reduceMul, Nat.zero_mul, Nat.zero_add, Nat.reduceAdd] at hf66_4)
                (try rw [show ((0 : Int)).toNat = 0 from rfl] at hx66_5)
                (try simp only [Nat.reduceMul, Nat.zero_mul, Nat.zero_add, Nat.reduceAdd] at hx66_5)
                (try rw [show ((0 : Int)).toNat = 0 from rfl] at hf66_5)
                (try simp only [Nat.reduceMul, Nat.zero_mul, Nat.zero_add, Nat.reduceAdd] at hf66_5)
                (try rw [show ((0 : Int)).toNat = 0 from rfl] at hx66_6)
                (try simp only [Nat.reduceMul, Nat.zero_mul, Nat.zero_add, Nat.reduceAdd] at hx66_6)
                (try rw [show ((0 : Int)).toNat = 0 from rfl] at hf66_6)
                (try simp only [Nat.reduceMul, Nat.zero_mul, Nat.zero_add, Nat.reduceAdd] at hf66_6)
                (try rw [show ((0 : Int)).toNat = 0 from rfl] at hx66_7)
                (try simp only [Nat.reduceMul, Nat.zero_mul, Nat.zero_add, Nat.reduceAdd] at hx66_7)
                (try rw [show ((0 : Int)).toNat = 0 from rfl] at hf66_7)
                (try simp only [Nat.reduceMul, Nat.zero_mul, Nat.zero_add, Nat.reduceAdd] at hf66_7)
                (try rw [show ((0 : Int)).toNat = 0 from rfl] at hx66_8)
                (try simp only [Nat.reduceMul, Nat.zero_mul, Nat.zero_add, Nat.reduceAdd] at hx66_8)
                (try rw [show ((0 : Int)).toNat = 0 from rfl] at hf66_8)
                (try simp only [Nat.reduceMul, Nat.zero_mul, Nat.zero_add, Nat.reduceAdd] at hf66_8)
                (try rw [show ((0 : Int)).toNat = 0 from rfl] at hx66_9)
                (try simp only [Nat.reduceMul, Nat.zero_mul, Nat.zero_add, Nat.reduceAdd] at hx66_9)
                (try rw [show ((0 : Int)).toNat = 0 from rfl] at hf66_9)
                (try simp only [Nat.reduceMul, Nat.zero_mul, Nat.zero_add, Nat.reduceAdd] at hf66_9)
                replace p66 := eq_true p66
                replace q66 := eq_true q66
                have HX79 := Aside0.mk (show Kd.R k45 45 w20 w.heap.size (fun _ => True) (.slice (some ⟨go66, 0, none⟩) y357.length co16) y357 from (by (with_reducible repeat (first | apply Kd.R_alloc | apply Kd.R_drewN | apply Kd.R_drew)); exact HO359.out))
                obtain ⟨ce79, hcl79, hM79, hcc79, hfr79⟩ := Kd.R_elem HX79.out z45 (0 : Int) (by omega) (by have h_ : (0 : Int) < ((y357.length : Int) : Int) := of_decide_eq_true (by first | (with_reducible assumption) | assumption); first | exact h_ | (have e_ := (Kd.R_reads' HO359.out).1; omega) | simpa using h_)
                obtain rfl := k45_openM hM79
                have HP79 := Kd.R_seg HX79.out (0 : Int) (by omega) (by have h_ : (0 : Int) < ((y357.length : Int) : Int) := of_decide_eq_true (by first | (with_reducible assumption) | assumption); first | exact h_ | (have e_ := (Kd.R_reads' HO359.out).1; omega) | simpa using h_) (seg := [.string (⟨#[121]⟩ : ByteArray)]) (j := 6) hcl79 hcc79 (show 7 ≤ 10 from by decide) (x' := (⟨(rd_T45 y357 0).f0, (rd_T45 y357 0).f1, (rd_T45 y357 0).f2, (rd_T45 y357 0).f3, (rd_T45 y357 0).f4, (rd_T45 y357 0).f5, (⟨#[121]⟩ : ByteArray), (rd_T45 y357 0).f7, (rd_T45 y357 0).f8, (rd_T45 y357 0).f9⟩ : S45)) (k45_mkM _ _ _ (⟨(rd_T45 y357 0).f0, (rd_T45 y357 0).f1, (rd_T45 y357 0).f2, (rd_T45 y357 0).f3, (rd_T45 y357 0).f4, (rd_T45 y357 0).f5, (⟨#[121]⟩ : ByteArray), (rd_T45 y357 0).f7, (rd_T45 y357 0).f8, (rd_T45 y357 0).f9⟩ : S45) ) (fun _ hk => hk)
                have hx79_6 := hcc79 6 _ rfl
                (try simp only [show (k45).sz = 10 from rfl, Nat.mul_one, Nat.add_zero] at hx79_6)
                (try rw [show ((0 : Int)).toNat = 0 from rfl] at hx79_6)
                (try simp only [Nat.reduceMul, Nat.zero_mul, Nat.zero_add, Nat.reduceAdd] at hx79_6)
                have hf79_6 := hfr79 6
                (try simp only [show (k45).sz = 10 from rfl, Nat.mul_one, Nat.add_zero] at hf79_6)
                (try rw [show ((0 : Int)).toNat = 0 from rfl] at hf79_6)
                (try simp only [Nat.reduceMul, Nat.zero_mul, Nat.zero_add, Nat.reduceAdd] at hf79_6)
                clear hcl79 hcc79 hfr79 hM79
                go_wp2_with (first | ((with_reducible refine gate_store (t := 9) (p := 58) rfl ?_); refine store_event (t := 9) (p := 58) (v := ?vo_w80) (w1 := (w20.setCell ⟨go66, 6, none⟩ (.string (⟨#[121]⟩ : ByteArray)))) ?hg ?ho ?hn ?hr ?_; (case ho => rfl); (case hg => rfl); (case hn => rfl); (case hr => first | (go_simp; done) | (go_simp; rfl)); intro w80 hw; have hg : w20.grownBy w80 (some go66) := (by rw [hw]; exact HP79.2); have hp_ : Kd.R k45 45 w80 w.heap.size (fun _ => True) (.slice (some ⟨go66, 0, none⟩) y357.length co16) y368 := (by rw [hw, Ny368.out]; exact HP79.1); clear HP79; have n0_ := Aside0.mk (Kd.R_over' (v := (.slice (some ⟨go66, 0, none⟩) y357.length co16)) (by (with_reducible repeat (first | apply Kd.R_alloc | apply Kd.R_drewN | apply Kd.R_drew)); exact HO356.out) (Kd.R_typed HO359.out) (by decide) hg); have n1_ := Aside0.mk (hp_); have n2_ := Aside0.mk (blk_grown (g := gb360) (o := .cells #[.slice Ao17 y354.length co17, .slice (some ⟨go66, 0, none⟩) y357.length co16] 25 (0, 0)) (by (with_reducible repeat (first | refine blk_drewN ?_ _ | refine blk_drew ?_ | refine blk_alloc ?_ _)); exact BK360.out) hg (Kd.R_ne HO359.out BK360.out (by decide))); have n3_ := Aside0.mk ((by rw [hw]; exact below_set (HB.out) GB66.out : Below w.heap.size w w80)); clear HO356; clear HO359; clear BK360; clear HB; have HO356 := n0_; have HO359 := n1_; have BK360 := n2_; have HB := n3_; clear n0_ n1_ n2_ n3_; clear hg hw hp_; have hcz81_0 : w80.cell? ⟨gb360, 0, none⟩ = some (.slice Ao17 y354.length co17) := (blk_cell BK360.out 0).trans rfl; have hcz81_1 : w80.cell? ⟨gb360, 1, none⟩ = some (.slice (some ⟨go66, 0, none⟩) y357.length co16) := (blk_cell BK360.out 1).trans rfl; have hfz81_0 := blk_frozen BK360.out 0; have hfz81_1 := blk_frozen BK360.out 1) | ((with_reducible refine gate_callee (f := 20) rfl ?_); refine goesL_ (some 165) rfl rfl Tryd.func20 (by kernel_rfl) rfl #[.agg #[.slice Ao17 y354.length co17, .slice (some ⟨go66, 0, none⟩) y368.length co16]] rfl (by (try simp only [List.map_toArray, List.map_cons, List.map_nil]); first | done | (rw [show y368.length = y357.length from (Kd.R_reads' HO359.out).1.symm] <;> rfl) | rfl | (simp only [List.length_drop, List.length_take]; rfl)) ?_; (with_reducible refine (tree_May.calls k _ _ y354 _ _ y368 t369 _ ?side1 ?side2 ?side3 ?side4 A67.out).mono ?_); (case side1 => repeat (first | (with_reducible refine Kd.C_alloc ?_ _) | (with_reducible refine Kd.C_drewN ?_ _) | (with_reducible refine Kd.C_drew ?_) | exact (Kd.R_reads' HO356.out).2.2)); (case side2 => exact (Kd.R_reads' HO356.out).2.1); (case side3 => repeat (first | (with_reducible refine Kd.C_alloc ?_ _) | (with_reducible refine Kd.C_drewN ?_ _) | (with_reducible refine Kd.C_drew ?_) | exact (Kd.R_reads' HO359.out).2.2)); (case side4 => rw [show y368.length = y357.length from (Kd.R_reads' HO359.out).1.symm]; exact (Kd.R_reads' HO359.out).2.1); rintro e w82 ⟨rfl, hb⟩; refine ⟨_, rfl, ?_⟩; have n0_ := Aside0.mk (Kd.R_below (by (with_reducible repeat (first | apply Kd.R_alloc | apply Kd.R_drewN | apply Kd.R_drew)); exact HO356.out) hb); have n1_ := Aside0.mk (Kd.R_below (by (with_reducible repeat (first | apply Kd.R_alloc | apply Kd.R_drewN | apply Kd.R_drew)); exact HO359.out) hb); have n2_ := Aside0.mk (blk_below (g := gb360) (o := .cells #[.slice Ao17 y354.length co17, .slice (some ⟨go66, 0, none⟩) y357.length co16] 25 (0, 0)) (by (with_reducible repeat (first | refine blk_drewN ?_ _ | refine blk_drew ?_ | refine blk_alloc ?_ _)); exact BK360.out) hb); have n3_ := Aside0.mk (below_step (by repeat (first | (with_reducible first | exact HB.out | apply below_alloc | apply pw_below_drewN | apply below_drew1 | refine below_set ?_ GE360.out) | exact HB.out)) hb); clear HO356; clear HO359; clear BK360; clear HB; have HO356 := n0_; have HO359 := n1_; have BK360 := n2_; have HB := n3_; clear n0_ n1_ n2_ n3_; (try clear hb); (try clear hb2); (try clear hk); (try clear hi)))
                go_ret
                exact ⟨by first | rfl | (simp [errW_none, errW_some] <;> rfl) | (simp [*, errW_none, errW_some] <;> rfl), by repeat (first | (with_reducible first | exact HB.out | apply below_alloc | apply pw_below_drewN | apply below_drew1 | refine below_set ?_ GE360.out) | exact HB.out)⟩
              · rw [if_neg c65] at H
                exact absurd H (by simp)
            · rw [if_neg c64] at H
              have c64b0 : ((Int.tmod (IntKind.u64.wrap (a0)) 20) == 3) = false := beq_eq_false_iff_ne.mpr c64
              have c64b1 : ((Int.tmod (IntKind.u64.wrap (a0)) 20) != 3) = true := bne_iff_ne.mpr c64
              by_cases c83 : (Int.tmod (IntKind.u64.wrap (a0)) 20) = 4
              · rw [if_pos c83] at H
                have c83b0 : ((Int.tmod (IntKind.u64.wrap (a0)) 20) == 4) = true := beq_iff_eq.mpr c83
                have c83b1 : ((Int.tmod (IntKind.u64.wrap (a0)) 20) != 4) = false := bne_eq_false_iff_eq.mpr c83
                clear c83
                by_cases c84 : 1 < (y357.length : Int)
                · rw [if_pos c84] at H
                  have c84b0 : decide (1 < (y357.length : Int)) = true := decide_eq_true c84
                  have c84b1 : decide (1 < y357.length) = true := decide_eq_true (by omega)
                  clear c84
                  obtain ⟨y370, hy370⟩ : ∃ y_ : List (S45), y_ = (y357.set (1 : Int).toNat (⟨(rd_T45 y357 1).f0, (rd_T45 y357 1).f1, (rd_T45 y357 1).f2, (rd_T45 y357 1).f3, wrap64 (-(wrap64 (1 + (Go.bits .and .i64 a1 1023)))), (rd_T45 y357 1).f5, (rd_T45 y357 1).f6, (rd_T45 y357 1).f7, (rd_T45 y357 1).f8, (rd_T45 y357 1).f9⟩ : S45)) := ⟨_, rfl⟩
                  first | rw [Option.bind_some, ← hy370] at H | rw [← hy370] at H
                  (try dsimp only at H)
                  have Ny370 := Aside0.mk hy370
                  clear hy370
                  replace H := Option.bind_eq_some_iff.mp H
                  obtain ⟨t371, A860, H⟩ := H
                  (try dsimp only at H)
                  have A86 := Aside0.mk A860
                  clear A860
                  obtain rfl := Option.some.inj H
                  have hcz97_0 : w20.cell? ⟨gb360, 0, none⟩ = some (.slice Ao17 y354.length co17) := (blk_cell BK360.out 0).trans rfl
                  have hcz97_1 : w20.cell? ⟨gb360, 1, none⟩ = some (.slice Ao16 y357.length co16) := (blk_cell BK360.out 1).trans rfl
                  have hfz97_0 := blk_frozen BK360.out 0
                  have hfz97_1 := blk_frozen BK360.out 1
                  have p85 : 0 ≤ (1 : Int) := (by omega)
                  have q85 : (1 : Int) < ((y357.length : Int) : Int) := of_decide_eq_true (by first | (with_reducible assumption) | assumption)
                  have qi85 : (1 < y357.length) = True := eq_true (by omega)
                  obtain ⟨go85, co85, eo85, gb85, gl85, cl85, HG85⟩ := Kd.R_form HO359.out (by omega)
                  (first | cases eo85 | (injection eo85 with ea_ en_ ec_; (first | subst ea_ | (injection ea_ with ea_; subst ea_)); subst ec_; clear en_))
                  have GB85 := Aside0.mk gb85
                  have GG85 := Aside0.mk HG85
                  clear gb85 gl85 HG85
                  obtain ⟨ce85, hcl85, hM85, hcc85, hfr85⟩ := Kd.R_elem HO359.out z45 (1 : Int) p85 q85
                  obtain rfl := k45_openM hM85
                  have hx85_0 : w20.cell? ⟨go85, (1 : Int).toNat * 10, none⟩ = some (.int .i64 ((rd_T45 y357 1).f0)) := hcc85 0 _ rfl
                  have hx85_1 : w20.cell? ⟨go85, (1 : Int).toNat * 10 + 1, none⟩ = some (.int .i64 ((rd_T45 y357 1).f1)) := hcc85 1 _ rfl
                  have hx85_2 : w20.cell? ⟨go85, (1 : Int).toNat * 10 + 2, none⟩ = some (.int .i64 ((rd_T45 y357 1).f2)) := hcc85 2 _ rfl
                  have hx85_3 : w20.cell? ⟨go85, (1 : Int).toNat * 10 + 3, none⟩ = some (.int .i64 ((rd_T45 y357 1).f3)) := hcc85 3 _ rfl
                  have hx85_4 : w20.cell? ⟨go85, (1 : Int).toNat * 10 + 4, none⟩ = some (.int .i64 ((rd_T45 y357 1).f4)) := hcc85 4 _ rfl
                  have hx85_5 : w20.cell? ⟨go85, (1 : Int).toNat * 10 + 5, none⟩ = some (.string ((rd_T45 y357 1).f5)) := hcc85 5 _ rfl
                  have hx85_6 : w20.cell? ⟨go85, (1 : Int).toNat * 10 + 6, none⟩ = some (.string ((rd_T45 y357 1).f6)) := hcc85 6 _ rfl
                  have hx85_7 : w20.cell? ⟨go85, (1 : Int).toNat * 10 + 7, none⟩ = some (.string ((rd_T45 y357 1).f7)) := hcc85 7 _ rfl
                  have hx85_8 : w20.cell? ⟨go85, (1 : Int).toNat * 10 + 8, none⟩ = some (.string ((rd_T45 y357 1).f8)) := hcc85 8 _ rfl
                  have hx85_9 : w20.cell? ⟨go85, (1 : Int).toNat * 10 + 9, none⟩ = some (.int .i64 ((rd_T45 y357 1).f9)) := hcc85 9 _ rfl
                  have hf85_0 : w20.frozen? ⟨go85, (1 : Int).toNat * 10, none⟩ = false := hfr85 0
                  have hf85_1 : w20.frozen? ⟨go85, (1 : Int).toNat * 10 + 1, none⟩ = false := hfr85 1
                  have hf85_2 : w20.frozen? ⟨go85, (1 : Int).toNat * 10 + 2, none⟩ = false := hfr85 2
                  have hf85_3 : w20.frozen? ⟨go85, (1 : Int).toNat * 10 + 3, none⟩ = false := hfr85 3
                  have hf85_4 : w20.frozen? ⟨go85, (1 : Int).toNat * 10 + 4, none⟩ = false := hfr85 4
                  have hf85_5 : w20.frozen? ⟨go85, (1 : Int).toNat * 10 + 5, none⟩ = false := hfr85 5
                  have hf85_6 : w20.frozen? ⟨go85, (1 : Int).toNat * 10 + 6, none⟩ = false := hfr85 6
                  have hf85_7 : w20.frozen? ⟨go85, (1 : Int).toNat * 10 + 7, none⟩ = false := hfr85 7
                  have hf85_8 : w20.frozen? ⟨go85, (1 : Int).toNat * 10 + 8, none⟩ = false := hfr85 8
                  have hf85_9 : w20.frozen? ⟨go85, (1 : Int).toNat * 10 + 9, none⟩ = false := hfr85 9
                  clear hcl85 hcc85 hfr85 hM85
                  (try rw [show ((1 : Int)).toNat = 1 from rfl] at hx85_0)
                  (try simp only [Nat.reduceMul, Nat.zero_mul, Nat.zero_add, Nat.reduceAdd] at hx85_0)
                  (try rw [show ((1 : Int)).toNat = 1 from rfl] at hf85_0)
                  (try simp only [Nat.reduceMul, Nat.zero_mul, Nat.zero_add, Nat.reduceAdd] at hf85_0)
                  (try rw [show ((1 : Int)).toNat = 1 from rfl] at hx85_1)
                  (try simp only [Nat.reduceMul, Nat.zero_mul, Nat.zero_add, Nat.reduceAdd] at hx85_1)
                  (try rw [show ((1 : Int)).toNat = 1 from rfl] at hf85_1)
                  (try simp only [Nat.reduceMul, Nat.zero_mul, Nat.zero_add, Nat.reduceAdd] at hf85_1)
                  (try rw [show ((1 : Int)).toNat = 1 from rfl] at hx85_2)
                  (try simp only [Nat.reduceMul, Nat.zero_mul, Nat.zero_add, Nat.reduceAdd] at hx85_2)
                  (try rw [show ((1 : Int)).toNat = 1 from rfl] at hf85_2)
                  (try simp only [Nat.reduceMul, Nat.zero_mul, Nat.zero_add, Nat.reduceAdd] at hf85_2)
                  (try rw [show ((1 : Int)).toNat = 1 from rfl] at hx85_3)
                  (try simp only [Nat.reduceMul, Nat.zero_mul, Nat.zero_add, Nat.reduceAdd] at hx85_3)
                  (try rw [show ((1 : Int)).toNat = 1 from rfl] at hf85_3)
                  (try simp only [Nat.reduceMul, Nat.zero_mul, Nat.zero_add, Nat.reduceAdd] at hf85_3)
                  (try rw [show ((1 : Int)).toNat = 1 from rfl] at hx85_4)
                  (try simp only [Nat.reduceMul, Nat.zero_mul, Nat.zero_add, Nat.reduceAdd] at hx85_4)
                  (try rw [show ((1 : Int)).toNat = 1 from rfl] at hf85_4)
                  (try simp only [Nat.reduceMul, Nat.zero_mul, Nat.zero_add, Nat.reduceAdd] at hf85_4)
                  (try rw [show ((1 : Int)).toNat = 1 from rfl] at hx85_5)
                  (try simp only [Nat.reduceMul, Nat.zero_mul, Nat.zero_add, Nat.reduceAdd] at hx85_5)
                  (try rw [show ((1 : Int)).toNat = 1 from rfl] at hf85_5)
                  (try simp only [Nat.reduceMul, Nat.zero_mul, Nat.zero_add, Nat.reduceAdd] at hf85_5)
                  (try rw [show ((1 : Int)).toNat = 1 from rfl] at hx85_6)
                  (try simp only [Nat.reduceMul, Nat.zero_mul, Nat.zero_add, Nat.reduceAdd] at hx85_6)
                  (try rw [show ((1 : Int)).toNat = 1 from rfl] at hf85_6)
                  (try simp only [Nat.reduceMul, Nat.zero_mul, Nat.zero_add, Nat.reduceAdd] at hf85_6)
                  (try rw [show ((1 : Int)).toNat = 1 from rfl] at hx85_7)
                  (try simp only [Nat.reduceMul, Nat.zero_mul, Nat.zero_add, Nat.reduceAdd] at hx85_7)
                  (try rw [show ((1 : Int)).toNat = 1 from rfl] at hf85_7)
                  (try simp only [Nat.reduceMul, Nat.zero_mul, Nat.zero_add, Nat.reduceAdd] at hf85_7)
                  (try rw [show ((1 : Int)).toNat = 1 from rfl] at hx85_8)
                  (try simp only [Nat.reduceMul, Nat.zero_mul, Nat.zero_add, Nat.reduceAdd] at hx85_8)
                  (try rw [show ((1 : Int)).toNat = 1 from rfl] at hf85_8)
                  (try simp only [Nat.reduceMul, Nat.zero_mul, Nat.zero_add, Nat.reduceAdd] at hf85_8)
                  (try rw [show ((1 : Int)).toNat = 1 from rfl] at hx85_9)
                  (try simp only [Nat.reduceMul, Nat.zero_mul, Nat.zero_add, Nat.reduceAdd] at hx85_9)
                  (try rw [show ((1 : Int)).toNat = 1 from rfl] at hf85_9)
                  (try simp only [Nat.reduceMul, Nat.zero_mul, Nat.zero_add, Nat.reduceAdd] at hf85_9)
                  replace p85 := eq_true p85
                  replace q85 := eq_true q85
                  have HX98 := Aside0.mk (show Kd.R k45 45 w20 w.heap.size (fun _ => True) (.slice (some ⟨go85, 0, none⟩) y357.length co16) y357 from (by (with_reducible repeat (first | apply Kd.R_alloc | apply Kd.R_drewN | apply Kd.R_drew)); exact HO359.out))
                  obtain ⟨ce98, hcl98, hM98, hcc98, hfr98⟩ := Kd.R_elem HX98.out z45 (1 : Int) (by omega) (by have h_ : (1 : Int) < ((y357.length : Int) : Int) := of_decide_eq_true (by first | (with_reducible assumption) | assumption); first | exact h_ | (have e_ := (Kd.R_reads' HO359.out).1; omega) | simpa using h_)
                  obtain rfl := k45_openM hM98
                  have HP98 := Kd.R_seg HX98.out (1 : Int) (by omega) (by have h_ : (1 : Int) < ((y357.length : Int) : Int) := of_decide_eq_true (by first | (with_reducible assumption) | assumption); first | exact h_ | (have e_ := (Kd.R_reads' HO359.out).1; omega) | simpa using h_) (seg := [.int .i64 (wrap64 (-(wrap64 (1 + (Go.bits .and .i64 a1 1023)))))]) (j := 4) hcl98 hcc98 (show 5 ≤ 10 from by decide) (x' := (⟨(rd_T45 y357 1).f0, (rd_T45 y357 1).f1, (rd_T45 y357 1).f2, (rd_T45 y357 1).f3, wrap64 (-(wrap64 (1 + (Go.bits .and .i64 a1 1023)))), (rd_T45 y357 1).f5, (rd_T45 y357 1).f6, (rd_T45 y357 1).f7, (rd_T45 y357 1).f8, (rd_T45 y357 1).f9⟩ : S45)) (k45_mkM _ _ _ (⟨(rd_T45 y357 1).f0, (rd_T45 y357 1).f1, (rd_T45 y357 1).f2, (rd_T45 y357 1).f3, wrap64 (-(wrap64 (1 + (Go.bits .and .i64 a1 1023)))), (rd_T45 y357 1).f5, (rd_T45 y357 1).f6, (rd_T45 y357 1).f7, (rd_T45 y357 1).f8, (rd_T45 y357 1).f9⟩ : S45) ) (fun _ hk => hk)
                  have hx98_4 := hcc98 4 _ rfl
                  (try simp only [show (k45).sz = 10 from rfl, Nat.mul_one, Nat.add_zero] at hx98_4)
                  (try rw [show ((1 : Int)).toNat = 1 from rfl] at hx98_4)
                  (try simp only [Nat.reduceMul, Nat.zero_mul, Nat.zero_add, Nat.reduceAdd] at hx98_4)
                  have hf98_4 := hfr98 4
                  (try simp only [show (k45).sz = 10 from rfl, Nat.mul_one, Nat.add_zero] at hf98_4)
                  (try rw [show ((1 : Int)).toNat = 1 from rfl] at hf98_4)
                  (try simp only [Nat.reduceMul, Nat.zero_mul, Nat.zero_add, Nat.reduceAdd] at hf98_4)
                  clear hcl98 hcc98 hfr98 hM98
                  go_wp2_with (first | ((with_reducible refine gate_store (t := 3) (p := 66) rfl ?_); refine store_event (t := 3) (p := 66) (v := ?vo_w99) (w1 := (w20.setCell ⟨go85, 14, none⟩ (.int .i64 (wrap64 (-(wrap64 (1 + (Go.bits .and .i64 a1 1023)))))))) ?hg ?ho ?hn ?hr ?_; (case ho => rfl); (case hg => rfl); (case hn => rfl); (case hr => first | (go_simp; done) | (go_simp; rfl)); intro w99 hw; have hg : w20.grownBy w99 (some go85) := (by rw [hw]; exact HP98.2); have hp_ : Kd.R k45 45 w99 w.heap.size (fun _ => True) (.slice (some ⟨go85, 0, none⟩) y357.length co16) y370 := (by rw [hw, Ny370.out]; exact HP98.1); clear HP98; have n0_ := Aside0.mk (Kd.R_over' (v := (.slice (some ⟨go85, 0, none⟩) y357.length co16)) (by (with_reducible repeat (first | apply Kd.R_alloc | apply Kd.R_drewN | apply Kd.R_drew)); exact HO356.out) (Kd.R_typed HO359.out) (by decide) hg); have n1_ := Aside0.mk (hp_); have n2_ := Aside0.mk (blk_grown (g := gb360) (o := .cells #[.slice Ao17 y354.length co17, .slice (some ⟨go85, 0, none⟩) y357.length co16] 25 (0, 0)) (by (with_reducible repeat (first | refine blk_drewN ?_ _ | refine blk_drew ?_ | refine blk_alloc ?_ _)); exact BK360.out) hg (Kd.R_ne HO359.out BK360.out (by decide))); have n3_ := Aside0.mk ((by rw [hw]; exact below_set (HB.out) GB85.out : Below w.heap.size w w99)); clear HO356; clear HO359; clear BK360; clear HB; have HO356 := n0_; have HO359 := n1_; have BK360 := n2_; have HB := n3_; clear n0_ n1_ n2_ n3_; clear hg hw hp_; have hcz100_0 : w99.cell? ⟨gb360, 0, none⟩ = some (.slice Ao17 y354.length co17) := (blk_cell BK360.out 0).trans rfl; have hcz100_1 : w99.cell? ⟨gb360, 1, none⟩ = some (.slice (some ⟨go85, 0, none⟩) y357.length co16) := (blk_cell BK360.out 1).trans rfl; have hfz100_0 := blk_frozen BK360.out 0; have hfz100_1 := blk_frozen BK360.out 1) | ((with_reducible refine gate_callee (f := 20) rfl ?_); refine goesL_ (some 165) rfl rfl Tryd.func20 (by kernel_rfl) rfl #[.agg #[.slice Ao17 y354.length co17, .slice (some ⟨go85, 0, none⟩) y370.length co16]] rfl (by (try simp only [List.map_toArray, List.map_cons, List.map_nil]); first | done | (rw [show y370.length = y357.length from (Kd.R_reads' HO359.out).1.symm] <;> rfl) | rfl | (simp only [List.length_drop, List.length_take]; rfl)) ?_; (with_reducible refine (tree_May.calls k _ _ y354 _ _ y370 t371 _ ?side1 ?side2 ?side3 ?side4 A86.out).mono ?_); (case side1 => repeat (first | (with_reducible refine Kd.C_alloc ?_ _) | (with_reducible refine Kd.C_drewN ?_ _) | (with_reducible refine Kd.C_drew ?_) | exact (Kd.R_reads' HO356.out).2.2)); (case side2 => exact (Kd.R_reads' HO356.out).2.1); (case side3 => repeat (first | (with_reducible refine Kd.C_alloc ?_ _) | (with_reducible refine Kd.C_drewN ?_ _) | (with_reducible refine Kd.C_drew ?_) | exact (Kd.R_reads' HO359.out).2.2)); (case side4 => rw [show y370.length = y357.length from (Kd.R_reads' HO359.out).1.symm]; exact (Kd.R_reads' HO359.out).2.1); rintro e w101 ⟨rfl, hb⟩; refine ⟨_, rfl, ?_⟩; have n0_ := Aside0.mk (Kd.R_below (by (with_reducible repeat (first | apply Kd.R_alloc | apply Kd.R_drewN | apply Kd.R_drew)); exact HO356.out) hb); have n1_ := Aside0.mk (Kd.R_below (by (with_reducible repeat (first | apply Kd.R_alloc | apply Kd.R_drewN | apply Kd.R_drew)); exact HO359.out) hb); have n2_ := Aside0.mk (blk_below (g := gb360) (o := .cells #[.slice Ao17 y354.length co17, .slice (some ⟨go85, 0, none⟩) y357.length co16] 25 (0, 0)) (by (with_reducible repeat (first | refine blk_drewN ?_ _ | refine blk_drew ?_ | refine blk_alloc ?_ _)); exact BK360.out) hb); have n3_ := Aside0.mk (below_step (by repeat (first | (with_reducible first | exact HB.out | apply below_alloc | apply pw_below_drewN | apply below_drew1 | refine below_set ?_ GE360.out) | exact HB.out)) hb); clear HO356; clear HO359; clear BK360; clear HB; have HO356 := n0_; have HO359 := n1_; have BK360 := n2_; have HB := n3_; clear n0_ n1_ n2_ n3_; (try clear hb); (try clear hb2); (try clear hk); (try clear hi)))
                  go_ret
                  exact ⟨by first | rfl | (simp [errW_none, errW_some] <;> rfl) | (simp [*, errW_none, errW_some] <;> rfl), by repeat (first | (with_reducible first | exact HB.out | apply below_alloc | apply pw_below_drewN | apply below_drew1 | refine below_set ?_ GE360.out) | exact HB.out)⟩
                · rw [if_neg c84] at H
                  exact absurd H (by simp)
              · rw [if_neg c83] at H
                have c83b0 : ((Int.tmod (IntKind.u64.wrap (a0)) 20) == 4) = false := beq_eq_false_iff_ne.mpr c83
                have c83b1 : ((Int.tmod (IntKind.u64.wrap (a0)) 20) != 4) = true := bne_iff_ne.mpr c83
                by_cases c102 : (Int.tmod (IntKind.u64.wrap (a0)) 20) = 5
                · rw [if_pos c102] at H
                  have c102b0 : ((Int.tmod (IntKind.u64.wrap (a0)) 20) == 5) = true := beq_iff_eq.mpr c102
                  have c102b1 : ((Int.tmod (IntKind.u64.wrap (a0)) 20) != 5) = false := bne_eq_false_iff_eq.mpr c102
                  clear c102
                  by_cases c103 : 1 < (y357.length : Int)
                  · rw [if_pos c103] at H
                    have c103b0 : decide (1 < (y357.length : Int)) = true := decide_eq_true c103
                    have c103b1 : decide (1 < y357.length) = true := decide_eq_true (by omega)
                    clear c103
                    obtain ⟨y372, hy372⟩ : ∃ y_ : List (S45), y_ = (y357.set (1 : Int).toNat (⟨(rd_T45 y357 1).f0, (rd_T45 y357 1).f1, (rd_T45 y357 1).f2, (rd_T45 y357 1).f3, wrap64 (1073741823 + (wrap64 (1 + (Go.bits .and .i64 a1 1023)))), (rd_T45 y357 1).f5, (rd_T45 y357 1).f6, (rd_T45 y357 1).f7, (rd_T45 y357 1).f8, (rd_T45 y357 1).f9⟩ : S45)) := ⟨_, rfl⟩
                    first | rw [Option.bind_some, ← hy372] at H | rw [← hy372] at H
                    (try dsimp only at H)
                    have Ny372 := Aside0.mk hy372
                    clear hy372
                    replace H := Option.bind_eq_some_iff.mp H
                    obtain ⟨t373, A1050, H⟩ := H
                    (try dsimp only at H)
                    have A105 := Aside0.mk A1050
                    clear A1050
                    obtain rfl := Option.some.inj H
                    have hcz116_0 : w20.cell? ⟨gb360, 0, none⟩ = some (.slice Ao17 y354.length co17) := (blk_cell BK360.out 0).trans rfl
                    have hcz116_1 : w20.cell? ⟨gb360, 1, none⟩ = some (.slice Ao16 y357.length co16) := (blk_cell BK360.out 1).trans rfl
                    have hfz116_0 := blk_frozen BK360.out 0
                    have hfz116_1 := blk_frozen BK360.out 1
                    have p104 : 0 ≤ (1 : Int) := (by omega)
                    have q104 : (1 : Int) < ((y357.length : Int) : Int) := of_decide_eq_true (by first | (with_reducible assumption) | assumption)
                    have qi104 : (1 < y357.length) = True := eq_true (by omega)
                    obtain ⟨go104, co104, eo104, gb104, gl104, cl104, HG104⟩ := Kd.R_form HO359.out (by omega)
                    (first | cases eo104 | (injection eo104 with ea_ en_ ec_; (first | subst ea_ | (injection ea_ with ea_; subst ea_)); subst ec_; clear en_))
                    have GB104 := Aside0.mk gb104
                    have GG104 := Aside0.mk HG104
                    clear gb104 gl104 HG104
                    obtain ⟨ce104, hcl104, hM104, hcc104, hfr104⟩ := Kd.R_elem HO359.out z45 (1 : Int) p104 q104
                    obtain rfl := k45_openM hM104
                    have hx104_0 : w20.cell? ⟨go104, (1 : Int).toNat * 10, none⟩ = some (.int .i64 ((rd_T45 y357 1).f0)) := hcc104 0 _ rfl
                    have hx104_1 : w20.cell? ⟨go104, (1 : Int).toNat * 10 + 1, none⟩ = some (.int .i64 ((rd_T45 y357 1).f1)) := hcc104 1 _ rfl
                    have hx104_2 : w20.cell? ⟨go104, (1 : Int).toNat * 10 + 2, none⟩ = some (.int .i64 ((rd_T45 y357 1).f2)) := hcc104 2 _ rfl
                    have hx104_3 : w20.cell? ⟨go104, (1 : Int).toNat * 10 + 3, none⟩ = some (.int .i64 ((rd_T45 y357 1).f3)) := hcc104 3 _ rfl
                    have hx104_4 : w20.cell? ⟨go104, (1 : Int).toNat * 10 + 4, none⟩ = some (.int .i64 ((rd_T45 y357 1).f4)) := hcc104 4 _ rfl
                    have hx104_5 : w20.cell? ⟨go104, (1 : Int).toNat * 10 + 5, none⟩ = some (.string ((rd_T45 y357 1).f5)) := hcc104 5 _ rfl
                    have hx104_6 : w20.cell? ⟨go104, (1 : Int).toNat * 10 + 6, none⟩ = some (.string ((rd_T45 y357 1).f6)) := hcc104 6 _ rfl
                    have hx104_7 : w20.cell? ⟨go104, (1 : Int).toNat * 10 + 7, none⟩ = some (.string ((rd_T45 y357 1).f7)) := hcc104 7 _ rfl
                    have hx104_8 : w20.cell? ⟨go104, (1 : Int).toNat * 10 + 8, none⟩ = some (.string ((rd_T45 y357 1).f8)) := hcc104 8 _ rfl
                    have hx104_9 : w20.cell? ⟨go104, (1 : Int).toNat * 10 + 9, none⟩ = some (.int .i64 ((rd_T45 y357 1).f9)) := hcc104 9 _ rfl
                    have hf104_0 : w20.frozen? ⟨go104, (1 : Int).toNat * 10, none⟩ = false := hfr104 0
                    have hf104_1 : w20.frozen? ⟨go104, (1 : Int).toNat * 10 + 1, none⟩ = false := hfr104 1
                    have hf104_2 : w20.frozen? ⟨go104, (1 : Int).toNat * 10 + 2, none⟩ = false := hfr104 2
                    have hf104_3 : w20.frozen? ⟨go104, (1 : Int).toNat * 10 + 3, none⟩ = false := hfr104 3
                    have hf104_4 : w20.frozen? ⟨go104, (1 : Int).toNat * 10 + 4, none⟩ = false := hfr104 4
                    have hf104_5 : w20.frozen? ⟨go104, (1 : Int).toNat * 10 + 5, none⟩ = false := hfr104 5
                    have hf104_6 : w20.frozen? ⟨go104, (1 : Int).toNat * 10 + 6, none⟩ = false := hfr104 6
                    have hf104_7 : w20.frozen? ⟨go104, (1 : Int).toNat * 10 + 7, none⟩ = false := hfr104 7
                    have hf104_8 : w20.frozen? ⟨go104, (1 : Int).toNat * 10 + 8, none⟩ = false := hfr104 8
                    have hf104_9 : w20.frozen? ⟨go104, (1 : Int).toNat * 10 + 9, none⟩ = false := hfr104 9
                    clear hcl104 hcc104 hfr104 hM104
                    (try rw [show ((1 : Int)).toNat = 1 from rfl] at hx104_0)
                    (try simp only [Nat.reduceMul, Nat.zero_mul, Nat.zero_add, Nat.reduceAdd] at hx104_0)
                    (try rw [show ((1 : Int)).toNat = 1 from rfl] at hf104_0)
                    (try simp only [Nat.reduceMul, Nat.zero_mul, Nat.zero_add, Nat.reduceAdd] at hf104_0)
                    (try rw [show ((1 : Int)).toNat = 1 from rfl] at hx104_1)
                    (try simp only [Nat.reduceMul, Nat.zero_mul, Nat.zero_add, Nat.reduceAdd] at hx104_1)
                    (try rw [show ((1 : Int)).toNat = 1 from rfl] at hf104_1)
                    (try simp only [Nat.reduceMul, Nat.zero_mul, Nat.zero_add, Nat.reduceAdd] at hf104_1)
                    (try rw [show ((1 : Int)).toNat = 1 from rfl] at hx104_2)
                    (try simp only [Nat.reduceMul, Nat.zero_mul, Nat.zero_add, Nat.reduceAdd] at hx104_2)
                    (try rw [show ((1 : Int)).toNat = 1 from rfl] at hf104_2)
                    (try simp only [Nat.reduceMul, Nat.zero_mul, Nat.zero_add, Nat.reduceAdd] at hf104_2)
                    (try rw [show ((1 : Int)).toNat = 1 from rfl] at hx104_3)
                    (try simp only [Nat.reduceMul, Nat.zero_mul, Nat.zero_add, Nat.reduceAdd] at hx104_3)
                    (try rw [show ((1 : Int)).toNat = 1 from rfl] at hf104_3)
                    (try simp only [Nat.reduceMul, Nat.zero_mul, Nat.zero_add, Nat.reduceAdd] at hf104_3)
                    (try rw [show ((1 : Int)).toNat = 1 from rfl] at hx104_4)
                    (try simp only [Nat.reduceMul, Nat.zero_mul, Nat.zero_add, Nat.reduceAdd] at hx104_4)
                    (try rw [show ((1 : Int)).toNat = 1 from rfl] at hf104_4)
                    (try simp only [Nat.reduceMul, Nat.zero_mul, Nat.zero_add, Nat.reduceAdd] at hf104_4)
                    (try rw [show ((1 : Int)).toNat = 1 from rfl] at hx104_5)
                    (try simp only [Nat.reduceMul, Nat.zero_mul, Nat.zero_add, Nat.reduceAdd] at hx104_5)
                    (try rw [show ((1 : Int)).toNat = 1 from rfl] at hf104_5)
                    (try simp only [Nat.reduceMul, Nat.zero_mul, Nat.zero_add, Nat.reduceAdd] at hf104_5)
                    (try rw [show ((1 : Int)).toNat = 1 from rfl] at hx104_6)
                    (try simp only [Nat.reduceMul, Nat.zero_mul, Nat.zero_add, Nat.reduceAdd] at hx104_6)
                    (try rw [show ((1 : Int)).toNat = 1 from rfl] at hf104_6)
                    (try simp only [Nat.reduceMul, Nat.zero_mul, Nat.zero_add, Nat.reduceAdd] at hf104_6)
                    (try rw [show ((1 : Int)).toNat = 1 from rfl] at hx104_7)
                    (try simp only [Nat.reduceMul, Nat.zero_mul, Nat.zero_add, Nat.reduceAdd] at hx104_7)
                    (try rw [show ((1 : Int)).toNat = 1 from rfl] at hf104_7)
                    (try simp only [Nat.reduceMul, Nat.zero_mul, Nat.zero_add, Nat.reduceAdd] at hf104_7)
                    (try rw [show ((1 : Int)).toNat = 1 from rfl] at hx104_8)
                    (try simp only [Nat.reduceMul, Nat.zero_mul, Nat.zero_add, Nat.reduceAdd] at hx104_8)
                    (try rw [show ((1 : Int)).toNat = 1 from rfl] at hf104_8)
                    (try simp only [Nat.reduceMul, Nat.zero_mul, Nat.zero_add, Nat.reduceAdd] at hf104_8)
                    (try rw [show ((1 : Int)).toNat = 1 from rfl] at hx104_9)
                    (try simp only [Nat.reduceMul, Nat.zero_mul, Nat.zero_add, Nat.reduceAdd] at hx104_9)
                    (try rw [show ((1 : Int)).toNat = 1 from rfl] at hf104_9)
                    (try simp only [Nat.reduceMul, Nat.zero_mul, Nat.zero_add, Nat.reduceAdd] at hf104_9)
                    replace p104 := eq_true p104
                    replace q104 := eq_true q104
                    have HX117 := Aside0.mk (show Kd.R k45 45 w20 w.heap.size (fun _ => True) (.slice (some ⟨go104, 0, none⟩) y357.length co16) y357 from (by (with_reducible repeat (first | apply Kd.R_alloc | apply Kd.R_drewN | apply Kd.R_drew)); exact HO359.out))
                    obtain ⟨ce117, hcl117, hM117, hcc117, hfr117⟩ := Kd.R_elem HX117.out z45 (1 : Int) (by omega) (by have h_ : (1 : Int) < ((y357.length : Int) : Int) := of_decide_eq_true (by first | (with_reducible assumption) | assumption); first | exact h_ | (have e_ := (Kd.R_reads' HO359.out).1; omega) | simpa using h_)
                    obtain rfl := k45_openM hM117
                    have HP117 := Kd.R_seg HX117.out (1 : Int) (by omega) (by have h_ : (1 : Int) < ((y357.length : Int) : Int) := of_decide_eq_true (by first | (with_reducible assumption) | assumption); first | exact h_ | (have e_ := (Kd.R_reads' HO359.out).1; omega) | simpa using h_) (seg := [.int .i64 (wrap64 (1073741823 + (wrap64 (1 + (Go.bits .and .i64 a1 1023)))))]) (j := 4) hcl117 hcc117 (show 5 ≤ 10 from by decide) (x' := (⟨(rd_T45 y357 1).f0, (rd_T45 y357 1).f1, (rd_T45 y357 1).f2, (rd_T45 y357 1).f3, wrap64 (1073741823 + (wrap64 (1 + (Go.bits .and .i64 a1 1023)))), (rd_T45 y357 1).f5, (rd_T45 y357 1).f6, (rd_T45 y357 1).f7, (rd_T45 y357 1).f8, (rd_T45 y357 1).f9⟩ : S45)) (k45_mkM _ _ _ (⟨(rd_T45 y357 1).f0, (rd_T45 y357 1).f1, (rd_T45 y357 1).f2, (rd_T45 y357 1).f3, wrap64 (1073741823 + (wrap64 (1 + (Go.bits .and .i64 a1 1023)))), (rd_T45 y357 1).f5, (rd_T45 y357 1).f6, (rd_T45 y357 1).f7, (rd_T45 y357 1).f8, (rd_T45 y357 1).f9⟩ : S45) ) (fun _ hk => hk)
                    have hx117_4 := hcc117 4 _ rfl
                    (try simp only [show (k45).sz = 10 from rfl, Nat.mul_one, Nat.add_zero] at hx117_4)
                    (try rw [show ((1 : Int)).toNat = 1 from rfl] at hx117_4)
                    (try simp only [Nat.reduceMul, Nat.zero_mul, Nat.zero_add, Nat.reduceAdd] at hx117_4)
                    have hf117_4 := hfr117 4
                    (try simp only [show (k45).sz = 10 from rfl, Nat.mul_one, Nat.add_zero] at hf117_4)
                    (try rw [show ((1 : Int)).toNat = 1 from rfl] at hf117_4)
                    (try simp only [Nat.reduceMul, Nat.zero_mul, Nat.zero_add, Nat.reduceAdd] at hf117_4)
                    clear hcl117 hcc117 hfr117 hM117
                    go_wp2_with (first | ((with_reducible refine gate_store (t := 3) (p := 74) rfl ?_); refine store_event (t := 3) (p := 74) (v := ?vo_w118) (w1 := (w20.setCell ⟨go104, 14, none⟩ (.int .i64 (wrap64 (1073741823 + (wrap64 (1 + (Go.bits .and .i64 a1 1023)))))))) ?hg ?ho ?hn ?hr ?_; (case ho => rfl); (case hg => rfl); (case hn => rfl); (case hr => first | (go_simp; done) | (go_simp; rfl)); intro w118 hw; have hg : w20.grownBy w118 (some go104) := (by rw [hw]; exact HP117.2); have hp_ : Kd.R k45 45 w118 w.heap.size (fun _ => True) (.slice (some ⟨go104, 0, none⟩) y357.length co16) y372 := (by rw [hw, Ny372.out]; exact HP117.1); clear HP117; have n0_ := Aside0.mk (Kd.R_over' (v := (.slice (some ⟨go104, 0, none⟩) y357.length co16)) (by (with_reducible repeat (first | apply Kd.R_alloc | apply Kd.R_drewN | apply Kd.R_drew)); exact HO356.out) (Kd.R_typed HO359.out) (by decide) hg); have n1_ := Aside0.mk (hp_); have n2_ := Aside0.mk (blk_grown (g := gb360) (o := .cells #[.slice Ao17 y354.length co17, .slice (some ⟨go104, 0, none⟩) y357.length co16] 25 (0, 0)) (by (with_reducible repeat (first | refine blk_drewN ?_ _ | refine blk_drew ?_ | refine blk_alloc ?_ _)); exact BK360.out) hg (Kd.R_ne HO359.out BK360.out (by decide))); have n3_ := Aside0.mk ((by rw [hw]; exact below_set (HB.out) GB104.out : Below w.heap.size w w118)); clear HO356; clear HO359; clear BK360; clear HB; have HO356 := n0_; have HO359 := n1_; have BK360 := n2_; have HB := n3_; clear n0_ n1_ n2_ n3_; clear hg hw hp_; have hcz119_0 : w118.cell? ⟨gb360, 0, none⟩ = some (.slice Ao17 y354.length co17) := (blk_cell BK360.out 0).trans rfl; have hcz119_1 : w118.cell? ⟨gb360, 1, none⟩ = some (.slice (some ⟨go104, 0, none⟩) y357.length co16) := (blk_cell BK360.out 1).trans rfl; have hfz119_0 := blk_frozen BK360.out 0; have hfz119_1 := blk_frozen BK360.out 1) | ((with_reducible refine gate_callee (f := 20) rfl ?_); refine goesL_ (some 165) rfl rfl Tryd.func20 (by kernel_rfl) rfl #[.agg #[.slice Ao17 y354.length co17, .slice (some ⟨go104, 0, none⟩) y372.length co16]] rfl (by (try simp only [List.map_toArray, List.map_cons, List.map_nil]); first | done | (rw [show y372.length = y357.length from (Kd.R_reads' HO359.out).1.symm] <;> rfl) | rfl | (simp only [List.length_drop, List.length_take]; rfl)) ?_; (with_reducible refine (tree_May.calls k _ _ y354 _ _ y372 t373 _ ?side1 ?side2 ?side3 ?side4 A105.out).mono ?_); (case side1 => repeat (first | (with_reducible refine Kd.C_alloc ?_ _) | (with_reducible refine Kd.C_drewN ?_ _) | (with_reducible refine Kd.C_drew ?_) | exact (Kd.R_reads' HO356.out).2.2)); (case side2 => exact (Kd.R_reads' HO356.out).2.1); (case side3 => repeat (first | (with_reducible refine Kd.C_alloc ?_ _) | (with_reducible refine Kd.C_drewN ?_ _) | (with_reducible refine Kd.C_drew ?_) | exact (Kd.R_reads' HO359.out).2.2)); (case side4 => rw [show y372.length = y357.length from (Kd.R_reads' HO359.out).1.symm]; exact (Kd.R_reads' HO359.out).2.1); rintro e w120 ⟨rfl, hb⟩; refine ⟨_, rfl, ?_⟩; have n0_ := Aside0.mk (Kd.R_below (by (with_reducible repeat (first | apply Kd.R_alloc | apply Kd.R_drewN | apply Kd.R_drew)); exact HO356.out) hb); have n1_ := Aside0.mk (Kd.R_below (by (with_reducible repeat (first | apply Kd.R_alloc | apply Kd.R_drewN | apply Kd.R_drew)); exact HO359.out) hb); have n2_ := Aside0.mk (blk_below (g := gb360) (o := .cells #[.slice Ao17 y354.length co17, .slice (some ⟨go104, 0, none⟩) y357.length co16] 25 (0, 0)) (by (with_reducible repeat (first | refine blk_drewN ?_ _ | refine blk_drew ?_ | refine blk_alloc ?_ _)); exact BK360.out) hb); have n3_ := Aside0.mk (below_step (by repeat (first | (with_reducible first | exact HB.out | apply below_alloc | apply pw_below_drewN | apply below_drew1 | refine below_set ?_ GE360.out) | exact HB.out)) hb); clear HO356; clear HO359; clear BK360; clear HB; have HO356 := n0_; have HO359 := n1_; have BK360 := n2_; have HB := n3_; clear n0_ n1_ n2_ n3_; (try clear hb); (try clear hb2); (try clear hk); (try clear hi)))
                    go_ret
                    exact ⟨by first | rfl | (simp [errW_none, errW_some] <;> rfl) | (simp [*, errW_none, errW_some] <;> rfl), by repeat (first | (with_reducible first | exact HB.out | apply below_alloc | apply pw_below_drewN | apply below_drew1 | refine below_set ?_ GE360.out) | exact HB.out)⟩
                  · rw [if_neg c103] at H
                    exact absurd H (by simp)
                · rw [if_neg c102] at H
                  have c102b0 : ((Int.tmod (IntKind.u64.wrap (a0)) 20) == 5) = false := beq_eq_false_iff_ne.mpr c102
                  have c102b1 : ((Int.tmod (IntKind.u64.wrap (a0)) 20) != 5) = true := bne_iff_ne.mpr c102
                  by_cases c121 : (Int.tmod (IntKind.u64.wrap (a0)) 20) = 6
                  · rw [if_pos c121] at H
                    have c121b0 : ((Int.tmod (IntKind.u64.wrap (a0)) 20) == 6) = true := beq_iff_eq.mpr c121
                    have c121b1 : ((Int.tmod (IntKind.u64.wrap (a0)) 20) != 6) = false := bne_eq_false_iff_eq.mpr c121
                    clear c121
                    by_cases c122 : 2 < (y357.length : Int)
                    · rw [if_pos c122] at H
                      have c122b0 : decide (2 < (y357.length : Int)) = true := decide_eq_true c122
                      have c122b1 : decide (2 < y357.length) = true := decide_eq_true (by omega)
                      clear c122
                      obtain ⟨y374, hy374⟩ : ∃ y_ : List (S45), y_ = (y357.set (2 : Int).toNat (⟨(rd_T45 y357 2).f0, (rd_T45 y357 2).f1, (rd_T45 y357 2).f2, (rd_T45 y357 2).f3, wrap64 (5 + (wrap64 (1 + (Go.bits .and .i64 a1 1023)))), (rd_T45 y357 2).f5, (rd_T45 y357 2).f6, (rd_T45 y357 2).f7, (rd_T45 y357 2).f8, (rd_T45 y357 2).f9⟩ : S45)) := ⟨_, rfl⟩
                      first | rw [Option.bind_some, ← hy374] at H | rw [← hy374] at H
                      (try dsimp only at H)
                      have Ny374 := Aside0.mk hy374
                      clear hy374
                      replace H := Option.bind_eq_some_iff.mp H
                      obtain ⟨t375, A1240, H⟩ := H
                      (try dsimp only at H)
                      have A124 := Aside0.mk A1240
                      clear A1240
                      obtain rfl := Option.some.inj H
                      have hcz135_0 : w20.cell? ⟨gb360, 0, none⟩ = some (.slice Ao17 y354.length co17) := (blk_cell BK360.out 0).trans rfl
                      have hcz135_1 : w20.cell? ⟨gb360, 1, none⟩ = some (.slice Ao16 y357.length co16) := (blk_cell BK360.out 1).trans rfl
                      have hfz135_0 := blk_frozen BK360.out 0
                      have hfz135_1 := blk_frozen BK360.out 1
                      have p123 : 0 ≤ (2 : Int) := (by omega)
                      have q123 : (2 : Int) < ((y357.length : Int) : Int) := of_decide_eq_true (by first | (with_reducible assumption) | assumption)
                      have qi123 : (2 < y357.length) = True := eq_true (by omega)
                      obtain ⟨go123, co123, eo123, gb123, gl123, cl123, HG123⟩ := Kd.R_form HO359.out (by omega)
                      (first | cases eo123 | (injection eo123 with ea_ en_ ec_; (first | subst ea_ | (injection ea_ with ea_; subst ea_)); subst ec_; clear en_))
                      have GB123 := Aside0.mk gb123
                      have GG123 := Aside0.mk HG123
                      clear gb123 gl123 HG123
                      obtain ⟨ce123, hcl123, hM123, hcc123, hfr123⟩ := Kd.R_elem HO359.out z45 (2 : Int) p123 q123
                      obtain rfl := k45_openM hM123
                      have hx123_0 : w20.cell? ⟨go123, (2 : Int).toNat * 10, none⟩ = some (.int .i64 ((rd_T45 y357 2).f0)) := hcc123 0 _ rfl
                      have hx123_1 : w20.cell? ⟨go123, (2 : Int).toNat * 10 + 1, none⟩ = some (.int .i64 ((rd_T45 y357 2).f1)) := hcc123 1 _ rfl
                      have hx123_2 : w20.cell? ⟨go123, (2 : Int).toNat * 10 + 2, none⟩ = some (.int .i64 ((rd_T45 y357 2).f2)) := hcc123 2 _ rfl
                      have hx123_3 : w20.cell? ⟨go123, (2 : Int).toNat * 10 + 3, none⟩ = some (.int .i64 ((rd_T45 y357 2).f3)) := hcc123 3 _ rfl
                      have hx123_4 : w20.cell? ⟨go123, (2 : Int).toNat * 10 + 4, none⟩ = some (.int .i64 ((rd_T45 y357 2).f4)) := hcc123 4 _ rfl
                      have hx123_5 : w20.cell? ⟨go123, (2 : Int).toNat * 10 + 5, none⟩ = some (.string ((rd_T45 y357 2).f5)) := hcc123 5 _ rfl
                      have hx123_6 : w20.cell? ⟨go123, (2 : Int).toNat * 10 + 6, none⟩ = some (.string ((rd_T45 y357 2).f6)) := hcc123 6 _ rfl
                      have hx123_7 : w20.cell? ⟨go123, (2 : Int).toNat * 10 + 7, none⟩ = some (.string ((rd_T45 y357 2).f7)) := hcc123 7 _ rfl
                      have hx123_8 : w20.cell? ⟨go123, (2 : Int).toNat * 10 + 8, none⟩ = some (.string ((rd_T45 y357 2).f8)) := hcc123 8 _ rfl
                      have hx123_9 : w20.cell? ⟨go123, (2 : Int).toNat * 10 + 9, none⟩ = some (.int .i64 ((rd_T45 y357 2).f9)) := hcc123 9 _ rfl
                      have hf123_0 : w20.frozen? ⟨go123, (2 : Int).toNat * 10, none⟩ = false := hfr123 0
                      have hf123_1 : w20.frozen? ⟨go123, (2 : Int).toNat * 10 + 1, none⟩ = false := hfr123 1
                      have hf123_2 : w20.frozen? ⟨go123, (2 : Int).toNat * 10 + 2, none⟩ = false := hfr123 2
                      have hf123_3 : w20.frozen? ⟨go123, (2 : Int).toNat * 10 + 3, none⟩ = false := hfr123 3
                      have hf123_4 : w20.frozen? ⟨go123, (2 : Int).toNat * 10 + 4, none⟩ = false := hfr123 4
                      have hf123_5 : w20.frozen? ⟨go123, (2 : Int).toNat * 10 + 5, none⟩ = false := hfr123 5
                      have hf123_6 : w20.frozen? ⟨go123, (2 : Int).toNat * 10 + 6, none⟩ = false := hfr123 6
                      have hf123_7 : w20.frozen? ⟨go123, (2 : Int).toNat * 10 + 7, none⟩ = false := hfr123 7
                      have hf123_8 : w20.frozen? ⟨go123, (2 : Int).toNat * 10 + 8, none⟩ = false := hfr123 8
                      have hf123_9 : w20.frozen? ⟨go123, (2 : Int).toNat * 10 + 9, none⟩ = false := hfr123 9
                      clear hcl123 hcc123 hfr123 hM123
                      (try rw [show ((2 : Int)).toNat = 2 from rfl] at hx123_0)
                      (try simp only [Nat.reduceMul, Nat.zero_mul, Nat.zero_add, Nat.reduceAdd] at hx123_0)
                      (try rw [show ((2 : Int)).toNat = 2 from rfl] at hf123_0)
                      (try simp only [Nat.reduceMul, Nat.zero_mul, Nat.zero_add, Nat.reduceAdd] at hf123_0)
                      (try rw [show ((2 : Int)).toNat = 2 from rfl] at hx123_1)
                      (try simp only [Nat.reduceMul, Nat.zero_mul, Nat.zero_add, Nat.reduceAdd] at hx123_1)
                      (try rw [show ((2 : Int)).toNat = 2 from rfl] at hf123_1)
                      (try simp only [Nat.reduceMul, Nat.zero_mul, Nat.zero_add, Nat.reduceAdd] at hf123_1)
                      (try rw [show ((2 : Int)).toNat = 2 from rfl] at hx123_2)
                      (try simp only [Nat.reduceMul, Nat.zero_mul, Nat.zero_add, Nat.reduceAdd] at hx123_2)
                      (try rw [show ((2 : Int)).toNat = 2 from rfl] at hf123_2)
                      (try simp only [Nat.reduceMul, Nat.zero_mul, Nat.zero_add, Nat.reduceAdd] at hf123_2)
                      (try rw [show ((2 : Int)).toNat = 2 from rfl] at hx123_3)
                      (try simp only [Nat.reduceMul, Nat.zero_mul, Nat.zero_add, Nat.reduceAdd] at hx123_3)
                      (try rw [show ((2 : Int)).toNat = 2 from rfl] at hf123_3)
                      (try simp only [Nat.reduceMul, Nat.zero_mul, Nat.zero_add, Nat.reduceAdd] at hf123_3)
                      (try rw [show ((2 : Int)).toNat = 2 from rfl] at hx123_4)
                      (try simp only [Nat.reduceMul, Nat.zero_mul, Nat.zero_add, Nat.reduceAdd] at hx123_4)
                      (try rw [show ((2 : Int)).toNat = 2 from rfl] at hf123_4)
                      (try simp only [Nat.reduceMul, Nat.zero_mul, Nat.zero_add, Nat.reduceAdd] at hf123_4)
                      (try rw [show ((2 : Int)).toNat = 2 from rfl] at hx123_5)
                      (try simp only [Nat.reduceMul, Nat.zero_mul, Nat.zero_add, Nat.reduceAdd] at hx123_5)
                      (try rw [show ((2 : Int)).toNat = 2 from rfl] at hf123_5)
                      (try simp only [Nat.reduceMul, Nat.zero_mul, Nat.zero_add, Nat.reduceAdd] at hf123_5)
                      (try rw [show ((2 : Int)).toNat = 2 from rfl] at hx123_6)
                      (try simp only [Nat.reduceMul, Nat.zero_mul, Nat.zero_add, Nat.reduceAdd] at hx123_6)
                      (try rw [show ((2 : Int)).toNat = 2 from rfl] at hf123_6)
                      (try simp only [Nat.reduceMul, Nat.zero_mul, Nat.zero_add, Nat.reduceAdd] at hf123_6)
                      (try rw [show ((2 : Int)).toNat = 2 from rfl] at hx123_7)
                      (try simp only [Nat.reduceMul, Nat.zero_mul, Nat.zero_add, Nat.reduceAdd] at hx123_7)
                      (try rw [show ((2 : Int)).toNat = 2 from rfl] at hf123_7)
                      (try simp only [Nat.reduceMul, Nat.zero_mul, Nat.zero_add, Nat.reduceAdd] at hf123_7)
                      (try rw [show ((2 : Int)).toNat = 2 from rfl] at hx123_8)
                      (try simp only [Nat.reduceMul, Nat.zero_mul, Nat.zero_add, Nat.reduceAdd] at hx123_8)
                      (try rw [show ((2 : Int)).toNat = 2 from rfl] at hf123_8)
                      (try simp only [Nat.reduceMul, Nat.zero_mul, Nat.zero_add, Nat.reduceAdd] at hf123_8)
                      (try rw [show ((2 : Int)).toNat = 2 from rfl] at hx123_9)
                      (try simp only [Nat.reduceMul, Nat.zero_mul, Nat.zero_add, Nat.reduceAdd] at hx123_9)
                      (try rw [show ((2 : Int)).toNat = 2 from rfl] at hf123_9)
                      (try simp only [Nat.reduceMul, Nat.zero_mul, Nat.zero_add, Nat.reduceAdd] at hf123_9)
                      replace p123 := eq_true p123
                      replace q123 := eq_true q123
                      have HX136 := Aside0.mk (show Kd.R k45 45 w20 w.heap.size (fun _ => True) (.slice (some ⟨go123, 0, none⟩) y357.length co16) y357 from (by (with_reducible repeat (first | apply Kd.R_alloc | apply Kd.R_drewN | apply Kd.R_drew)); exact HO359.out))
                      obtain ⟨ce136, hcl136, hM136, hcc136, hfr136⟩ := Kd.R_elem HX136.out z45 (2 : Int) (by omega) (by have h_ : (2 : Int) < ((y357.length : Int) : Int) := of_decide_eq_true (by first | (with_reducible assumption) | assumption); first | exact h_ | (have e_ := (Kd.R_reads' HO359.out).1; omega) | simpa using h_)
                      obtain rfl := k45_openM hM136
                      have HP136 := Kd.R_seg HX136.out (2 : Int) (by omega) (by have h_ : (2 : Int) < ((y357.length : Int) : Int) := of_decide_eq_true (by first | (with_reducible assumption) | assumption); first | exact h_ | (have e_ := (Kd.R_reads' HO359.out).1; omega) | simpa using h_) (seg := [.int .i64 (wrap64 (5 + (wrap64 (1 + (Go.bits .and .i64 a1 1023)))))]) (j := 4) hcl136 hcc136 (show 5 ≤ 10 from by decide) (x' := (⟨(rd_T45 y357 2).f0, (rd_T45 y357 2).f1, (rd_T45 y357 2).f2, (rd_T45 y357 2).f3, wrap64 (5 + (wrap64 (1 + (Go.bits .and .i64 a1 1023)))), (rd_T45 y357 2).f5, (rd_T45 y357 2).f6, (rd_T45 y357 2).f7, (rd_T45 y357 2).f8, (rd_T45 y357 2).f9⟩ : S45)) (k45_mkM _ _ _ (⟨(rd_T45 y357 2).f0, (rd_T45 y357 2).f1, (rd_T45 y357 2).f2, (rd_T45 y357 2).f3, wrap64 (5 + (wrap64 (1 + (Go.bits .and .i64 a1 1023)))), (rd_T45 y357 2).f5, (rd_T45 y357 2).f6, (rd_T45 y357 2).f7, (rd_T45 y357 2).f8, (rd_T45 y357 2).f9⟩ : S45) ) (fun _ hk => hk)
                      have hx136_4 := hcc136 4 _ rfl
                      (try simp only [show (k45).sz = 10 from rfl, Nat.mul_one, Nat.add_zero] at hx136_4)
                      (try rw [show ((2 : Int)).toNat = 2 from rfl] at hx136_4)
                      (try simp only [Nat.reduceMul, Nat.zero_mul, Nat.zero_add, Nat.reduceAdd] at hx136_4)
                      have hf136_4 := hfr136 4
                      (try simp only [show (k45).sz = 10 from rfl, Nat.mul_one, Nat.add_zero] at hf136_4)
                      (try rw [show ((2 : Int)).toNat = 2 from rfl] at hf136_4)
                      (try simp only [Nat.reduceMul, Nat.zero_mul, Nat.zero_add, Nat.reduceAdd] at hf136_4)
                      clear hcl136 hcc136 hfr136 hM136
                      go_wp2_with (first | ((with_reducible refine gate_store (t := 3) (p := 82) rfl ?_); refine store_event (t := 3) (p := 82) (v := ?vo_w137) (w1 := (w20.setCell ⟨go123, 24, none⟩ (.int .i64 (wrap64 (5 + (wrap64 (1 + (Go.bits .and .i64 a1 1023)))))))) ?hg ?ho ?hn ?hr ?_; (case ho => rfl); (case hg => rfl); (case hn => rfl); (case hr => first | (go_simp; done) | (go_simp; rfl)); intro w137 hw; have hg : w20.grownBy w137 (some go123) := (by rw [hw]; exact HP136.2); have hp_ : Kd.R k45 45 w137 w.heap.size (fun _ => True) (.slice (some ⟨go123, 0, none⟩) y357.length co16) y374 := (by rw [hw, Ny374.out]; exact HP136.1); clear HP136; have n0_ := Aside0.mk (Kd.R_over' (v := (.slice (some ⟨go123, 0, none⟩) y357.length co16)) (by (with_reducible repeat (first | apply Kd.R_alloc | apply Kd.R_drewN | apply Kd.R_drew)); exact HO356.out) (Kd.R_typed HO359.out) (by decide) hg); have n1_ := Aside0.mk (hp_); have n2_ := Aside0.mk (blk_grown (g := gb360) (o := .cells #[.slice Ao17 y354.length co17, .slice (some ⟨go123, 0, none⟩) y357.length co16] 25 (0, 0)) (by (with_reducible repeat (first | refine blk_drewN ?_ _ | refine blk_drew ?_ | refine blk_alloc ?_ _)); exact BK360.out) hg (Kd.R_ne HO359.out BK360.out (by decide))); have n3_ := Aside0.mk ((by rw [hw]; exact below_set (HB.out) GB123.out : Below w.heap.size w w137)); clear HO356; clear HO359; clear BK360; clear HB; have HO356 := n0_; have HO359 := n1_; have BK360 := n2_; have HB := n3_; clear n0_ n1_ n2_ n3_; clear hg hw hp_; have hcz138_0 : w137.cell? ⟨gb360, 0, none⟩ = some (.slice Ao17 y354.length co17) := (blk_cell BK360.out 0).trans rfl; have hcz138_1 : w137.cell? ⟨gb360, 1, none⟩ = some (.slice (some ⟨go123, 0, none⟩) y357.length co16) := (blk_cell BK360.out 1).trans rfl; have hfz138_0 := blk_frozen BK360.out 0; have hfz138_1 := blk_frozen BK360.out 1) | ((with_reducible refine gate_callee (f := 20) rfl ?_); refine goesL_ (some 165) rfl rfl Tryd.func20 (by kernel_rfl) rfl #[.agg #[.slice Ao17 y354.length co17, .slice (some ⟨go123, 0, none⟩) y374.length co16]] rfl (by (try simp only [List.map_toArray, List.map_cons, List.map_nil]); first | done | (rw [show y374.length = y357.length from (Kd.R_reads' HO359.out).1.symm] <;> rfl) | rfl | (simp only [List.length_drop, List.length_take]; rfl)) ?_; (with_reducible refine (tree_May.calls k _ _ y354 _ _ y374 t375 _ ?side1 ?side2 ?side3 ?side4 A124.out).mono ?_); (case side1 => repeat (first | (with_reducible refine Kd.C_alloc ?_ _) | (with_reducible refine Kd.C_drewN ?_ _) | (with_reducible refine Kd.C_drew ?_) | exact (Kd.R_reads' HO356.out).2.2)); (case side2 => exact (Kd.R_reads' HO356.out).2.1); (case side3 => repeat (first | (with_reducible refine Kd.C_alloc ?_ _) | (with_reducible refine Kd.C_drewN ?_ _) | (with_reducible refine Kd.C_drew ?_) | exact (Kd.R_reads' HO359.out).2.2)); (case side4 => rw [show y374.length = y357.length from (Kd.R_reads' HO359.out).1.symm]; exact (Kd.R_reads' HO359.out).2.1); rintro e w139 ⟨rfl, hb⟩; refine ⟨_, rfl, ?_⟩; have n0_ := Aside0.mk (Kd.R_below (by (with_reducible repeat (first | apply Kd.R_alloc | apply Kd.R_drewN | apply Kd.R_drew)); exact HO356.out) hb); have n1_ := Aside0.mk (Kd.R_below (by (with_reducible repeat (first | apply Kd.R_alloc | apply Kd.R_drewN | apply Kd.R_drew)); exact HO359.out) hb); have n2_ := Aside0.mk (blk_below (g := gb360) (o := .cells #[.slice Ao17 y354.length co17, .slice (some ⟨go123, 0, none⟩) y357.length co16] 25 (0, 0)) (by (with_reducible repeat (first | refine blk_drewN ?_ _ | refine blk_drew ?_ | refine blk_alloc ?_ _)); exact BK360.out) hb); have n3_ := Aside0.mk (below_step (by repeat (first | (with_reducible first | exact HB.out | apply below_alloc | apply pw_below_drewN | apply below_drew1 | refine below_set ?_ GE360.out) | exact HB.out)) hb); clear HO356; clear HO359; clear BK360; clear HB; have HO356 := n0_; have HO359 := n1_; have BK360 := n2_; have HB := n3_; clear n0_ n1_ n2_ n3_; (try clear hb); (try clear hb2); (try clear hk); (try clear hi)))
                      go_ret
                      exact ⟨by first | rfl | (simp [errW_none, errW_some] <;> rfl) | (simp [*, errW_none, errW_some] <;> rfl), by repeat (first | (with_reducible first | exact HB.out | apply below_alloc | apply pw_below_drewN | apply below_drew1 | refine below_set ?_ GE360.out) | exact HB.out)⟩
                    · rw [if_neg c122] at H
                      exact absurd H (by simp)
                  · rw [if_neg c121] at H
                    have c121b0 : ((Int.tmod (IntKind.u64.wrap (a0)) 20) == 6) = false := beq_eq_false_iff_ne.mpr c121
                    have c121b1 : ((Int.tmod (IntKind.u64.wrap (a0)) 20) != 6) = true := bne_iff_ne.mpr c121
                    by_cases c140 : (Int.tmod (IntKind.u64.wrap (a0)) 20) = 7
                    · rw [if_pos c140] at H
                      have c140b0 : ((Int.tmod (IntKind.u64.wrap (a0)) 20) == 7) = true := beq_iff_eq.mpr c140
                      have c140b1 : ((Int.tmod (IntKind.u64.wrap (a0)) 20) != 7) = false := bne_eq_false_iff_eq.mpr c140
                      clear c140
                      by_cases c141 : 2 < (y357.length : Int)
                      · rw [if_pos c141] at H
                        have c141b0 : decide (2 < (y357.length : Int)) = true := decide_eq_true c141
                        have c141b1 : decide (2 < y357.length) = true := decide_eq_true (by omega)
                        clear c141
                        obtain ⟨y376, hy376⟩ : ∃ y_ : List (S45), y_ = (y357.set (2 : Int).toNat (⟨(rd_T45 y357 2).f0, 1, (rd_T45 y357 2).f2, (rd_T45 y357 2).f3, (rd_T45 y357 2).f4, (rd_T45 y357 2).f5, (rd_T45 y357 2).f6, (rd_T45 y357 2).f7, (rd_T45 y357 2).f8, (rd_T45 y357 2).f9⟩ : S45)) := ⟨_, rfl⟩
                        first | rw [Option.bind_some, ← hy376] at H | rw [← hy376] at H
                        (try dsimp only at H)
                        have Ny376 := Aside0.mk hy376
                        clear hy376
                        replace H := Option.bind_eq_some_iff.mp H
                        obtain ⟨t377, A1430, H⟩ := H
                        (try dsimp only at H)
                        have A143 := Aside0.mk A1430
                        clear A1430
                        obtain rfl := Option.some.inj H
                        have hcz154_0 : w20.cell? ⟨gb360, 0, none⟩ = some (.slice Ao17 y354.length co17) := (blk_cell BK360.out 0).trans rfl
                        have hcz154_1 : w20.cell? ⟨gb360, 1, none⟩ = some (.slice Ao16 y357.length co16) := (blk_cell BK360.out 1).trans rfl
                        have hfz154_0 := blk_frozen BK360.out 0
                        have hfz154_1 := blk_frozen BK360.out 1
                        have p142 : 0 ≤ (2 : Int) := (by omega)
                        have q142 : (2 : Int) < ((y357.length : Int) : Int) := of_decide_eq_true (by first | (with_reducible assumption) | assumption)
                        have qi142 : (2 < y357.length) = True := eq_true (by omega)
                        obtain ⟨go142, co142, eo142, gb142, gl142, cl142, HG142⟩ := Kd.R_form HO359.out (by omega)
                        (first | cases eo142 | (injection eo142 with ea_ en_ ec_; (first | subst ea_ | (injection ea_ with ea_; subst ea_)); subst ec_; clear en_))
                        have GB142 := Aside0.mk gb142
                        have GG142 := Aside0.mk HG142
                        clear gb142 gl142 HG142
                        obtain ⟨ce142, hcl142, hM142, hcc142, hfr142⟩ := Kd.R_elem HO359.out z45 (2 : Int) p142 q142
                        obtain rfl := k45_openM hM142
                        have hx142_0 : w20.cell? ⟨go142, (2 : Int).toNat * 10, none⟩ = some (.int .i64 ((rd_T45 y357 2).f0)) := hcc142 0 _ rfl
                        have hx142_1 : w20.cell? ⟨go142, (2 : Int).toNat * 10 + 1, none⟩ = some (.int .i64 ((rd_T45 y357 2).f1)) := hcc142 1 _ rfl
                        have hx142_2 : w20.cell? ⟨go142, (2 : Int).toNat * 10 + 2, none⟩ = some (.int .i64 ((rd_T45 y357 2).f2)) := hcc142 2 _ rfl
                        have hx142_3 : w20.cell? ⟨go142, (2 : Int).toNat * 10 + 3, none⟩ = some (.int .i64 ((rd_T45 y357 2).f3)) := hcc142 3 _ rfl
                        have hx142_4 : w20.cell? ⟨go142, (2 : Int).toNat * 10 + 4, none⟩ = some (.int .i64 ((rd_T45 y357 2).f4)) := hcc142 4 _ rfl
                        have hx142_5 : w20.cell? ⟨go142, (2 : Int).toNat * 10 + 5, none⟩ = some (.string ((rd_T45 y357 2).f5)) := hcc142 5 _ rfl
                        have hx142_6 : w20.cell? ⟨go142, (2 : Int).toNat * 10 + 6, none⟩ = some (.string ((rd_T45 y357 2).f6)) := hcc142 6 _ rfl
                        have hx142_7 : w20.cell? ⟨go142, (2 : Int).toNat * 10 + 7, none⟩ = some (.string ((rd_T45 y357 2).f7)) := hcc142 7 _ rfl
                        have hx142_8 : w20.cell? ⟨go142, (2 : Int).toNat * 10 + 8, none⟩ = some (.string ((rd_T45 y357 2).f8)) := hcc142 8 _ rfl
                        have hx142_9 : w20.cell? ⟨go142, (2 : Int).toNat * 10 + 9, none⟩ = some (.int .i64 ((rd_T45 y357 2).f9)) := hcc142 9 _ rfl
                        have hf142_0 : w20.frozen? ⟨go142, (2 : Int).toNat * 10, none⟩ = false := hfr142 0
                        have hf142_1 : w20.frozen? ⟨go142, (2 : Int).toNat * 10 + 1, none⟩ = false := hfr142 1
                        have hf142_2 : w20.frozen? ⟨go142, (2 : Int).toNat * 10 + 2, none⟩ = false := hfr142 2
                        have hf142_3 : w20.frozen? ⟨go142, (2 : Int).toNat * 10 + 3, none⟩ = false := hfr142 3
                        have hf142_4 : w20.frozen? ⟨go142, (2 : Int).toNat * 10 + 4, none⟩ = false := hfr142 4
                        have hf142_5 : w20.frozen? ⟨go142, (2 : Int).toNat * 10 + 5, none⟩ = false := hfr142 5
                        have hf142_6 : w20.frozen? ⟨go142, (2 : Int).toNat * 10 + 6, none⟩ = false := hfr142 6
                        have hf142_7 : w20.frozen? ⟨go142, (2 : Int).toNat * 10 + 7, none⟩ = false := hfr142 7
                        have hf142_8 : w20.frozen? ⟨go142, (2 : Int).toNat * 10 + 8, none⟩ = false := hfr142 8
                        have hf142_9 : w20.frozen? ⟨go142, (2 : Int).toNat * 10 + 9, none⟩ = false := hfr142 9
                        clear hcl142 hcc142 hfr142 hM142
                        (try rw [show ((2 : Int)).toNat = 2 from rfl] at hx142_0)
                        (try simp only [Nat.reduceMul, Nat.zero_mul, Nat.zero_add, Nat.reduceAdd] at hx142_0)
                        (try rw [show ((2 : Int)).toNat = 2 from rfl] at hf142_0)
                        (try simp only [Nat.reduceMul, Nat.zero_mul, Nat.zero_add, Nat.reduceAdd] at hf142_0)
                        (try rw [show ((2 : Int)).toNat = 2 from rfl] at hx142_1)
                        (try simp only [Nat.reduceMul, Nat.zero_mul, Nat.zero_add, Nat.reduceAdd] at hx142_1)
                        (try rw [show ((2 : Int)).toNat = 2 from rfl] at hf142_1)
                        (try simp only [Nat.reduceMul, Nat.zero_mul, Nat.zero_add, Nat.reduceAdd] at hf142_1)
                        (try rw [show ((2 : Int)).toNat = 2 from rfl] at hx142_2)
                        (try simp only [Nat.reduceMul, Nat.zero_mul, Nat.zero_add, Nat.reduceAdd] at hx142_2)
                        (try rw [show ((2 : Int)).toNat = 2 from rfl] at hf142_2)
                        (try simp only [Nat.reduceMul, Nat.zero_mul, Nat.zero_add, Nat.reduceAdd] at hf142_2)
                        (try rw [show ((2 : Int)).toNat = 2 from rfl] at hx142_3)
                        (try simp only [Nat.reduceMul, Nat.zero_mul, Nat.zero_add, Nat.reduceAdd] at hx142_3)
                        (try rw [show ((2 : Int)).toNat = 2 from rfl] at hf142_3)
                        (try simp only [Nat.reduceMul, Nat.zero_mul, Nat.zero_add, Nat.reduceAdd] at hf142_3)
                        (try rw [show ((2 : Int)).toNat = 2 from rfl] at hx142_4)
                        (try simp only [Nat.reduceMul, Nat.zero_mul, Nat.zero_add, Nat.reduceAdd] at hx142_4)
                        (try rw [show ((2 : Int)).toNat = 2 from rfl] at hf142_4)
                        (try simp only [Nat.reduceMul, Nat.zero_mul, Nat.zero_add, Nat.reduceAdd] at hf142_4)
                        (try rw [show ((2 : Int)).toNat = 2 from rfl] at hx142_5)
                        (try simp only [Nat.reduceMul, Nat.zero_mul, Nat.zero_add, Nat.reduceAdd] at hx142_5)
                        (try rw [show ((2 : Int)).toNat = 2 from rfl] at hf142_5)
                        (try simp only [Nat.reduceMul, Nat.zero_mul, Nat.zero_add, Nat.reduceAdd] at hf142_5)
                        (try rw [show ((2 : Int)).toNat = 2 from rfl] at hx142_6)
                        (try simp only [Nat.reduceMul, Nat.zero_mul, Nat.zero_add, Nat.reduceAdd] at hx142_6)
                        (try rw [show ((2 : Int)).toNat = 2 from rfl] at hf142_6)
                        (try simp only [Nat.reduceMul, Nat.zero_mul, Nat.zero_add, Nat.reduceAdd] at hf142_6)
                        (try rw [show ((2 : Int)).toNat = 2 from rfl] at hx142_7)
                        (try simp only [Nat.reduceMul, Nat.zero_mul, Nat.zero_add, Nat.reduceAdd] at hx142_7)
                        (try rw [show ((2 : Int)).toNat = 2 from rfl] at hf142_7)
                        (try simp only [Nat.reduceMul, Nat.zero_mul, Nat.zero_add, Nat.reduceAdd] at hf142_7)
                        (try rw [show ((2 : Int)).toNat = 2 from rfl] at hx142_8)
                        (try simp only [Nat.reduceMul, Nat.zero_mul, Nat.zero_add, Nat.reduceAdd] at hx142_8)
                        (try rw [show ((2 : Int)).toNat = 2 from rfl] at hf142_8)
                        (try simp only [Nat.reduceMul, Nat.zero_mul, Nat.zero_add, Nat.reduceAdd] at hf142_8)
                        (try rw [show ((2 : Int)).toNat = 2 from rfl] at hx142_9)
                        (try simp only [Nat.reduceMul, Nat.zero_mul, Nat.zero_add, Nat.reduceAdd] at hx142_9)
                        (try rw [show ((2 : Int)).toNat = 2 from rfl] at hf142_9)
                        (try simp only [Nat.reduceMul, Nat.zero_mul, Nat.zero_add, Nat.reduceAdd] at hf142_9)
                        replace p142 := eq_true p142
                        replace q142 := eq_true q142
                        have HX155 := Aside0.mk (show Kd.R k45 45 w20 w.heap.size (fun _ => True) (.slice (some ⟨go142, 0, none⟩) y357.length co16) y357 from (by (with_reducible repeat (first | apply Kd.R_alloc | apply Kd.R_drewN | apply Kd.R_drew)); exact HO359.out))
                        obtain ⟨ce155, hcl155, hM155, hcc155, hfr155⟩ := Kd.R_elem HX155.out z45 (2 : Int) (by omega) (by have h_ : (2 : Int) < ((y357.length : Int) : Int) := of_decide_eq_true (by first | (with_reducible assumption) | assumption); first | exact h_ | (have e_ := (Kd.R_reads' HO359.out).1; omega) | simpa using h_)
                        obtain rfl := k45_openM hM155
                        have HP155 := Kd.R_seg HX155.out (2 : Int) (by omega) (by have h_ : (2 : Int) < ((y357.length : Int) : Int) := of_decide_eq_true (by first | (with_reducible assumption) | assumption); first | exact h_ | (have e_ := (Kd.R_reads' HO359.out).1; omega) | simpa using h_) (seg := [.int .i64 1]) (j := 1) hcl155 hcc155 (show 2 ≤ 10 from by decide) (x' := (⟨(rd_T45 y357 2).f0, 1, (rd_T45 y357 2).f2, (rd_T45 y357 2).f3, (rd_T45 y357 2).f4, (rd_T45 y357 2).f5, (rd_T45 y357 2).f6, (rd_T45 y357 2).f7, (rd_T45 y357 2).f8, (rd_T45 y357 2).f9⟩ : S45)) (k45_mkM _ _ _ (⟨(rd_T45 y357 2).f0, 1, (rd_T45 y357 2).f2, (rd_T45 y357 2).f3, (rd_T45 y357 2).f4, (rd_T45 y357 2).f5, (rd_T45 y357 2).f6, (rd_T45 y357 2).f7, (rd_T45 y357 2).f8, (rd_T45 y357 2).f9⟩ : S45) ) (fun _ hk => hk)
                        have hx155_1 := hcc155 1 _ rfl
                        (try simp only [show (k45).sz = 10 from rfl, Nat.mul_one, Nat.add_zero] at hx155_1)
                        (try rw [show ((2 : Int)).toNat = 2 from rfl] at hx155_1)
                        (try simp only [Nat.reduceMul, Nat.zero_mul, Nat.zero_add, Nat.reduceAdd] at hx155_1)
                        have hf155_1 := hfr155 1
                        (try simp only [show (k45).sz = 10 from rfl, Nat.mul_one, Nat.add_zero] at hf155_1)
                        (try rw [show ((2 : Int)).toNat = 2 from rfl] at hf155_1)
                        (try simp only [Nat.reduceMul, Nat.zero_mul, Nat.zero_add, Nat.reduceAdd] at hf155_1)
                        clear hcl155 hcc155 hfr155 hM155
                        go_wp2_with (first | ((with_reducible refine gate_store (t := 3) (p := 88) rfl ?_); refine store_event (t := 3) (p := 88) (v := ?vo_w156) (w1 := (w20.setCell ⟨go142, 21, none⟩ (.int .i64 1))) ?hg ?ho ?hn ?hr ?_; (case ho => rfl); (case hg => rfl); (case hn => rfl); (case hr => first | (go_simp; done) | (go_simp; rfl)); intro w156 hw; have hg : w20.grownBy w156 (some go142) := (by rw [hw]; exact HP155.2); have hp_ : Kd.R k45 45 w156 w.heap.size (fun _ => True) (.slice (some ⟨go142, 0, none⟩) y357.length co16) y376 := (by rw [hw, Ny376.out]; exact HP155.1); clear HP155; have n0_ := Aside0.mk (Kd.R_over' (v := (.slice (some ⟨go142, 0, none⟩) y357.length co16)) (by (with_reducible repeat (first | apply Kd.R_alloc | apply Kd.R_drewN | apply Kd.R_drew)); exact HO356.out) (Kd.R_typed HO359.out) (by decide) hg); have n1_ := Aside0.mk (hp_); have n2_ := Aside0.mk (blk_grown (g := gb360) (o := .cells #[.slice Ao17 y354.length co17, .slice (some ⟨go142, 0, none⟩) y357.length co16] 25 (0, 0)) (by (with_reducible repeat (first | refine blk_drewN ?_ _ | refine blk_drew ?_ | refine blk_alloc ?_ _)); exact BK360.out) hg (Kd.R_ne HO359.out BK360.out (by decide))); have n3_ := Aside0.mk ((by rw [hw]; exact below_set (HB.out) GB142.out : Below w.heap.size w w156)); clear HO356; clear HO359; clear BK360; clear HB; have HO356 := n0_; have HO359 := n1_; have BK360 := n2_; have HB := n3_; clear n0_ n1_ n2_ n3_; clear hg hw hp_; have hcz157_0 : w156.cell? ⟨gb360, 0, none⟩ = some (.slice Ao17 y354.length co17) := (blk_cell BK360.out 0).trans rfl; have hcz157_1 : w156.cell? ⟨gb360, 1, none⟩ = some (.slice (some ⟨go142, 0, none⟩) y357.length co16) := (blk_cell BK360.out 1).trans rfl; have hfz157_0 := blk_frozen BK360.out 0; have hfz157_1 := blk_frozen BK360.out 1) | ((with_reducible refine gate_callee (f := 20) rfl ?_); refine goesL_ (some 165) rfl rfl Tryd.func20 (by kernel_rfl) rfl #[.agg #[.slice Ao17 y354.length co17, .slice (some ⟨go142, 0, none⟩) y376.length co16]] rfl (by (try simp only [List.map_toArray, List.map_cons, List.map_nil]); first | done | (rw [show y376.length = y357.length from (Kd.R_reads' HO359.out).1.symm] <;> rfl) | rfl | (simp only [List.length_drop, List.length_take]; rfl)) ?_; (with_reducible refine (tree_May.calls k _ _ y354 _ _ y376 t377 _ ?side1 ?side2 ?side3 ?side4 A143.out).mono ?_); (case side1 => repeat (first | (with_reducible refine Kd.C_alloc ?_ _) | (with_reducible refine Kd.C_drewN ?_ _) | (with_reducible refine Kd.C_drew ?_) | exact (Kd.R_reads' HO356.out).2.2)); (case side2 => exact (Kd.R_reads' HO356.out).2.1); (case side3 => repeat (first | (with_reducible refine Kd.C_alloc ?_ _) | (with_reducible refine Kd.C_drewN ?_ _) | (with_reducible refine Kd.C_drew ?_) | exact (Kd.R_reads' HO359.out).2.2)); (case side4 => rw [show y376.length = y357.length from (Kd.R_reads' HO359.out).1.symm]; exact (Kd.R_reads' HO359.out).2.1); rintro e w158 ⟨rfl, hb⟩; refine ⟨_, rfl, ?_⟩; have n0_ := Aside0.mk (Kd.R_below (by (with_reducible repeat (first | apply Kd.R_alloc | apply Kd.R_drewN | apply Kd.R_drew)); exact HO356.out) hb); have n1_ := Aside0.mk (Kd.R_below (by (with_reducible repeat (first | apply Kd.R_alloc | apply Kd.R_drewN | apply Kd.R_drew)); exact HO359.out) hb); have n2_ := Aside0.mk (blk_below (g := gb360) (o := .cells #[.slice Ao17 y354.length co17, .slice (some ⟨go142, 0, none⟩) y357.length co16] 25 (0, 0)) (by (with_reducible repeat (first | refine blk_drewN ?_ _ | refine blk_drew ?_ | refine blk_alloc ?_ _)); exact BK360.out) hb); have n3_ := Aside0.mk (below_step (by repeat (first | (with_reducible first | exact HB.out | apply below_alloc | apply pw_below_drewN | apply below_drew1 | refine below_set ?_ GE360.out) | exact HB.out)) hb); clear HO356; clear HO359; clear BK360; clear HB; have HO356 := n0_; have HO359 := n1_; have BK360 := n2_; have HB := n3_; clear n0_ n1_ n2_ n3_; (try clear hb); (try clear hb2); (try clear hk); (try clear hi)))
                        go_ret
                        exact ⟨by first | rfl | (simp [errW_none, errW_some] <;> rfl) | (simp [*, errW_none, errW_some] <;> rfl), by repeat (first | (with_reducible first | exact HB.out | apply below_alloc | apply pw_below_drewN | apply below_drew1 | refine below_set ?_ GE360.out) | exact HB.out)⟩
                      · rw [if_neg c141] at H
                        exact absurd H (by simp)
                    · rw [if_neg c140] at H
                      have c140b0 : ((Int.tmod (IntKind.u64.wrap (a0)) 20) == 7) = false := beq_eq_false_iff_ne.mpr c140
                      have c140b1 : ((Int.tmod (IntKind.u64.wrap (a0)) 20) != 7) = true := bne_iff_ne.mpr c140
                      by_cases c159 : (Int.tmod (IntKind.u64.wrap (a0)) 20) = 8
                      · rw [if_pos c159] at H
                        have c159b0 : ((Int.tmod (IntKind.u64.wrap (a0)) 20) == 8) = true := beq_iff_eq.mpr c159
                        have c159b1 : ((Int.tmod (IntKind.u64.wrap (a0)) 20) != 8) = false := bne_eq_false_iff_eq.mpr c159
                        clear c159
                        by_cases c160 : 2 < (y357.length : Int)
                        · rw [if_pos c160] at H
                          have c160b0 : decide (2 < (y357.length : Int)) = true := decide_eq_true c160
                          have c160b1 : decide (2 < y357.length) = true := decide_eq_true (by omega)
                          clear c160
                          obtain ⟨y378, hy378⟩ : ∃ y_ : List (S45), y_ = (y357.set (2 : Int).toNat (⟨(rd_T45 y357 2).f0, (rd_T45 y357 2).f1, 0, (rd_T45 y357 2).f3, (rd_T45 y357 2).f4, (rd_T45 y357 2).f5, (rd_T45 y357 2).f6, (rd_T45 y357 2).f7, (rd_T45 y357 2).f8, (rd_T45 y357 2).f9⟩ : S45)) := ⟨_, rfl⟩
                          first | rw [Option.bind_some, ← hy378] at H | rw [← hy378] at H
                          (try dsimp only at H)
                          have Ny378 := Aside0.mk hy378
                          clear hy378
                          replace H := Option.bind_eq_some_iff.mp H
                          obtain ⟨t379, A1620, H⟩ := H
                          (try dsimp only at H)
                          have A162 := Aside0.mk A1620
                          clear A1620
                          obtain rfl := Option.some.inj H
                          have hcz173_0 : w20.cell? ⟨gb360, 0, none⟩ = some (.slice Ao17 y354.length co17) := (blk_cell BK360.out 0).trans rfl
                          have hcz173_1 : w20.cell? ⟨gb360, 1, none⟩ = some (.slice Ao16 y357.length co16) := (blk_cell BK360.out 1).trans rfl
                          have hfz173_0 := blk_frozen BK360.out 0
                          have hfz173_1 := blk_frozen BK360.out 1
                          have p161 : 0 ≤ (2 : Int) := (by omega)
                          have q161 : (2 : Int) < ((y357.length : Int) : Int) := of_decide_eq_true (by first | (with_reducible assumption) | assumption)
                          have qi161 : (2 < y357.length) = True := eq_true (by omega)
                          obtain ⟨go161, co161, eo161, gb161, gl161, cl161, HG161⟩ := Kd.R_form HO359.out (by omega)
                          (first | cases eo161 | (injection eo161 with ea_ en_ ec_; (first | subst ea_ | (injection ea_ with ea_; subst ea_)); subst ec_; clear en_))
                          have GB161 := Aside0.mk gb161
                          have GG161 := Aside0.mk HG161
                          clear gb161 gl161 HG161
                          obtain ⟨ce161, hcl161, hM161, hcc161, hfr161⟩ := Kd.R_elem HO359.out z45 (2 : Int) p161 q161
                          obtain rfl := k45_openM hM161
                          have hx161_0 : w20.cell? ⟨go161, (2 : Int).toNat * 10, none⟩ = some (.int .i64 ((rd_T45 y357 2).f0)) := hcc161 0 _ rfl
                          have hx161_1 : w20.cell? ⟨go161, (2 : Int).toNat * 10 + 1, none⟩ = some (.int .i64 ((rd_T45 y357 2).f1)) := hcc161 1 _ rfl
                          have hx161_2 : w20.cell? ⟨go161, (2 : Int).toNat * 10 + 2, none⟩ = some (.int .i64 ((rd_T45 y357 2).f2)) := hcc161 2 _ rfl
                          have hx161_3 : w20.cell? ⟨go161, (2 : Int).toNat * 10 + 3, none⟩ = some (.int .i64 ((rd_T45 y357 2).f3)) := hcc161 3 _ rfl
                          have hx161_4 : w20.cell? ⟨go161, (2 : Int).toNat * 10 + 4, none⟩ = some (.int .i64 ((rd_T45 y357 2).f4)) := hcc161 4 _ rfl
                          have hx161_5 : w20.cell? ⟨go161, (2 : Int).toNat * 10 + 5, none⟩ = some (.string ((rd_T45 y357 2).f5)) := hcc161 5 _ rfl
                          have hx161_6 : w20.cell? ⟨go161, (2 : Int).toNat * 10 + 6, none⟩ = some (.string ((rd_T45 y357 2).f6)) := hcc161 6 _ rfl
                          have hx161_7 : w20.cell? ⟨go161, (2 : Int).toNat * 10 + 7, none⟩ = some (.string ((rd_T45 y357 2).f7)) := hcc161 7 _ rfl
                          have hx161_8 : w20.cell? ⟨go161, (2 : Int).toNat * 10 + 8, none⟩ = some (.string ((rd_T45 y357 2).f8)) := hcc161 8 _ rfl
                          have hx161_9 : w20.cell? ⟨go161, (2 : Int).toNat * 10 + 9, none⟩ = some (.int .i64 ((rd_T45 y357 2).f9)) := hcc161 9 _ rfl
                          have hf161_0 : w20.frozen? ⟨go161, (2 : Int).toNat * 10, none⟩ = false := hfr161 0
                          have hf161_1 : w20.frozen? ⟨go161, (2 : Int).toNat * 10 + 1, none⟩ = false := hfr161 1
                          have hf161_2 : w20.frozen? ⟨go161, (2 : Int).toNat * 10 + 2, none⟩ = false := hfr161 2
                          have hf161_3 : w20.frozen? ⟨go161, (2 : Int).toNat * 10 + 3, none⟩ = false := hfr161 3
                          have hf161_4 : w20.frozen? ⟨go161, (2 : Int).toNat * 10 + 4, none⟩ = false := hfr161 4
                          have hf161_5 : w20.frozen? ⟨go161, (2 : Int).toNat * 10 + 5, none⟩ = false := hfr161 5
                          have hf161_6 : w20.frozen? ⟨go161, (2 : Int).toNat * 10 + 6, none⟩ = false := hfr161 6
                          have hf161_7 : w20.frozen? ⟨go161, (2 : Int).toNat * 10 + 7, none⟩ = false := hfr161 7
                          have hf161_8 : w20.frozen? ⟨go161, (2 : Int).toNat * 10 + 8, none⟩ = false := hfr161 8
                          have hf161_9 : w20.frozen? ⟨go161, (2 : Int).toNat * 10 + 9, none⟩ = false := hfr161 9
                          clear hcl161 hcc161 hfr161 hM161
                          (try rw [show ((2 : Int)).toNat = 2 from rfl] at hx161_0)
                          (try simp only [Nat.reduceMul, Nat.zero_mul, Nat.zero_add, Nat.reduceAdd] at hx161_0)
                          (try rw [show ((2 : Int)).toNat = 2 from rfl] at hf161_0)
                          (try simp only [Nat.reduceMul, Nat.zero_mul, Nat.zero_add, Nat.reduceAdd] at hf161_0)
                          (try rw [show ((2 : Int)).toNat = 2 from rfl] at hx161_1)
                          (try simp only [Nat.reduceMul, Nat.zero_mul, Nat.zero_add, Nat.reduceAdd] at hx161_1)
                          (try rw [show ((2 : Int)).toNat = 2 from rfl] at hf161_1)
                          (try simp only [Nat.reduceMul, Nat.zero_mul, Nat.zero_add, Nat.reduceAdd] at hf161_1)
                          (try rw [show ((2 : Int)).toNat = 2 from rfl] at hx161_2)
                          (try simp only [Nat.reduceMul, Nat.zero_mul, Nat.zero_add, Nat.reduceAdd] at hx161_2)
                          (try rw [show ((2 : Int)).toNat = 2 from rfl] at hf161_2)
                          (try simp only [Nat.reduceMul, Nat.zero_mul, Nat.zero_add, Nat.reduceAdd] at hf161_2)
                          (try rw [show ((2 : Int)).toNat = 2 from rfl] at hx161_3)
                          (try simp only [Nat.reduceMul, Nat.zero_mul, Nat.zero_add, Nat.reduceAdd] at hx161_3)
                          (try rw [show ((2 : Int)).toNat = 2 from rfl] at hf161_3)
                          (try simp only [Nat.reduceMul, Nat.zero_mul, Nat.zero_add, Nat.reduceAdd] at hf161_3)
                          (try rw [show ((2 : Int)).toNat = 2 from rfl] at hx161_4)
                          (try simp only [Nat.reduceMul, Nat.zero_mul, Nat.zero_add, Nat.reduceAdd] at hx161_4)
                          (try rw [show ((2 : Int)).toNat = 2 from rfl] at hf161_4)
                          (try simp only [Nat.reduceMul, Nat.zero_mul, Nat.zero_add, Nat.reduceAdd] at hf161_4)
                          (try rw [show ((2 : Int)).toNat = 2 from rfl] at hx161_5)
                          (try simp only [Nat.reduceMul, Nat.zero_mul, Nat.zero_add, Nat.reduceAdd] at hx161_5)
                          (try rw [show ((2 : Int)).toNat = 2 from rfl] at hf161_5)
                          (try simp only [Nat.reduceMul, Nat.zero_mul, Nat.zero_add, Nat.reduceAdd] at hf161_5)
                          (try rw [show ((2 : Int)).toNat = 2 from rfl] at hx161_6)
                          (try simp only [Nat.reduceMul, Nat.zero_mul, Nat.zero_add, Nat.reduceAdd] at hx161_6)
                          (try rw [show ((2 : Int)).toNat = 2 from rfl] at hf161_6)
                          (try simp only [Nat.reduceMul, Nat.zero_mul, Nat.zero_add, Nat.reduceAdd] at hf161_6)
                          (try rw [show ((2 : Int)).toNat = 2 from rfl] at hx161_7)
                          (try simp only [Nat.reduceMul, Nat.zero_mul, Nat.zero_add, Nat.reduceAdd] at hx161_7)
                          (try rw [show ((2 : Int)).toNat = 2 from rfl] at hf161_7)
                          (try simp only [Nat.reduceMul, Nat.zero_mul, Nat.zero_add, Nat.reduceAdd] at hf161_7)
                          (try rw [show ((2 : Int)).toNat = 2 from rfl] at hx161_8)
                          (try simp only [Nat.reduceMul, Nat.zero_mul, Nat.zero_add, Nat.reduceAdd] at hx161_8)
                          (try rw [show ((2 : Int)).toNat = 2 from rfl] at hf161_8)
                          (try simp only [Nat.reduceMul, Nat.zero_mul, Nat.zero_add, Nat.reduceAdd] at hf161_8)
                          (try rw [show ((2 : Int)).toNat = 2 from rfl] at hx161_9)
                          (try simp only [Nat.reduceMul, Nat.zero_mul, Nat.zero_add, Nat.reduceAdd] at hx161_9)
                          (try rw [show ((2 : Int)).toNat = 2 from rfl] at hf161_9)
                          (try simp only [Nat.reduceMul, Nat.zero_mul, Nat.zero_add, Nat.reduceAdd] at hf161_9)
                          replace p161 := eq_true p161
                          replace q161 := eq_true q161
                          have HX174 := Aside0.mk (show Kd.R k45 45 w20 w.heap.size (fun _ => True) (.slice (some ⟨go161, 0, none⟩) y357.length co16) y357 from (by (with_reducible repeat (first | apply Kd.R_alloc | apply Kd.R_drewN | apply Kd.R_drew)); exact HO359.out))
                          obtain ⟨ce174, hcl174, hM174, hcc174, hfr174⟩ := Kd.R_elem HX174.out z45 (2 : Int) (by omega) (by have h_ : (2 : Int) < ((y357.length : Int) : Int) := of_decide_eq_true (by first | (with_reducible assumption) | assumption); first | exact h_ | (have e_ := (Kd.R_reads' HO359.out).1; omega) | simpa using h_)
                          obtain rfl := k45_openM hM174
                          have HP174 := Kd.R_seg HX174.out (2 : Int) (by omega) (by have h_ : (2 : Int) < ((y357.length : Int) : Int) := of_decide_eq_true (by first | (with_reducible assumption) | assumption); first | exact h_ | (have e_ := (Kd.R_reads' HO359.out).1; omega) | simpa using h_) (seg := [.int .i64 0]) (j := 2) hcl174 hcc174 (show 3 ≤ 10 from by decide) (x' := (⟨(rd_T45 y357 2).f0, (rd_T45 y357 2).f1, 0, (rd_T45 y357 2).f3, (rd_T45 y357 2).f4, (rd_T45 y357 2).f5, (rd_T45 y357 2).f6, (rd_T45 y357 2).f7, (rd_T45 y357 2).f8, (rd_T45 y357 2).f9⟩ : S45)) (k45_mkM _ _ _ (⟨(rd_T45 y357 2).f0, (rd_T45 y357 2).f1, 0, (rd_T45 y357 2).f3, (rd_T45 y357 2).f4, (rd_T45 y357 2).f5, (rd_T45 y357 2).f6, (rd_T45 y357 2).f7, (rd_T45 y357 2).f8, (rd_T45 y357 2).f9⟩ : S45) ) (fun _ hk => hk)
                          have hx174_2 := hcc174 2 _ rfl
                          (try simp only [show (k45).sz = 10 from rfl, Nat.mul_one, Nat.add_zero] at hx174_2)
                          (try rw [show ((2 : Int)).toNat = 2 from rfl] at hx174_2)
                          (try simp only [Nat.reduceMul, Nat.zero_mul, Nat.zero_add, Nat.reduceAdd] at hx174_2)
                          have hf174_2 := hfr174 2
                          (try simp only [show (k45).sz = 10 from rfl, Nat.mul_one, Nat.add_zero] at hf174_2)
                          (try rw [show ((2 : Int)).toNat = 2 from rfl] at hf174_2)
                          (try simp only [Nat.reduceMul, Nat.zero_mul, Nat.zero_add, Nat.reduceAdd] at hf174_2)
                          clear hcl174 hcc174 hfr174 hM174
                          go_wp2_with (first | ((with_reducible refine gate_store (t := 3) (p := 94) rfl ?_); refine store_event (t := 3) (p := 94) (v := ?vo_w175) (w1 := (w20.setCell ⟨go161, 22, none⟩ (.int .i64 0))) ?hg ?ho ?hn ?hr ?_; (case ho => rfl); (case hg => rfl); (case hn => rfl); (case hr => first | (go_simp; done) | (go_simp; rfl)); intro w175 hw; have hg : w20.grownBy w175 (some go161) := (by rw [hw]; exact HP174.2); have hp_ : Kd.R k45 45 w175 w.heap.size (fun _ => True) (.slice (some ⟨go161, 0, none⟩) y357.length co16) y378 := (by rw [hw, Ny378.out]; exact HP174.1); clear HP174; have n0_ := Aside0.mk (Kd.R_over' (v := (.slice (some ⟨go161, 0, none⟩) y357.length co16)) (by (with_reducible repeat (first | apply Kd.R_alloc | apply Kd.R_drewN | apply Kd.R_drew)); exact HO356.out) (Kd.R_typed HO359.out) (by decide) hg); have n1_ := Aside0.mk (hp_); have n2_ := Aside0.mk (blk_grown (g := gb360) (o := .cells #[.slice Ao17 y354.length co17, .slice (some ⟨go161, 0, none⟩) y357.length co16] 25 (0, 0)) (by (with_reducible repeat (first | refine blk_drewN ?_ _ | refine blk_drew ?_ | refine blk_alloc ?_ _)); exact BK360.out) hg (Kd.R_ne HO359.out BK360.out (by decide))); have n3_ := Aside0.mk ((by rw [hw]; exact below_set (HB.out) GB161.out : Below w.heap.size w w175)); clear HO356; clear HO359; clear BK360; clear HB; have HO356 := n0_; have HO359 := n1_; have BK360 := n2_; have HB := n3_; clear n0_ n1_ n2_ n3_; clear hg hw hp_; have hcz176_0 : w175.cell? ⟨gb360, 0, none⟩ = some (.slice Ao17 y354.length co17) := (blk_cell BK360.out 0).trans rfl; have hcz176_1 : w175.cell? ⟨gb360, 1, none⟩ = some (.slice (some ⟨go161, 0, none⟩) y357.length co16) := (blk_cell BK360.out 1).trans rfl; have hfz176_0 := blk_frozen BK360.out 0; have hfz176_1 := blk_frozen BK360.out 1) | ((with_reducible refine gate_callee (f := 20) rfl ?_); refine goesL_ (some 165) rfl rfl Tryd.func20 (by kernel_rfl) rfl #[.agg #[.slice Ao17 y354.length co17, .slice (some ⟨go161, 0, none⟩) y378.length co16]] rfl (by (try simp only [List.map_toArray, List.map_cons, List.map_nil]); first | done | (rw [show y378.length = y357.length from (Kd.R_reads' HO359.out).1.symm] <;> rfl) | rfl | (simp only [List.length_drop, List.length_take]; rfl)) ?_; (with_reducible refine (tree_May.calls k _ _ y354 _ _ y378 t379 _ ?side1 ?side2 ?side3 ?side4 A162.out).mono ?_); (case side1 => repeat (first | (with_reducible refine Kd.C_alloc ?_ _) | (with_reducible refine Kd.C_drewN ?_ _) | (with_reducible refine Kd.C_drew ?_) | exact (Kd.R_reads' HO356.out).2.2)); (case side2 => exact (Kd.R_reads' HO356.out).2.1); (case side3 => repeat (first | (with_reducible refine Kd.C_alloc ?_ _) | (with_reducible refine Kd.C_drewN ?_ _) | (with_reducible refine Kd.C_drew ?_) | exact (Kd.R_reads' HO359.out).2.2)); (case side4 => rw [show y378.length = y357.length from (Kd.R_reads' HO359.out).1.symm]; exact (Kd.R_reads' HO359.out).2.1); rintro e w177 ⟨rfl, hb⟩; refine ⟨_, rfl, ?_⟩; have n0_ := Aside0.mk (Kd.R_below (by (with_reducible repeat (first | apply Kd.R_alloc | apply Kd.R_drewN | apply Kd.R_drew)); exact HO356.out) hb); have n1_ := Aside0.mk (Kd.R_below (by (with_reducible repeat (first | apply Kd.R_alloc | apply Kd.R_drewN | apply Kd.R_drew)); exact HO359.out) hb); have n2_ := Aside0.mk (blk_below (g := gb360) (o := .cells #[.slice Ao17 y354.length co17, .slice (some ⟨go161, 0, none⟩) y357.length co16] 25 (0, 0)) (by (with_reducible repeat (first | refine blk_drewN ?_ _ | refine blk_drew ?_ | refine blk_alloc ?_ _)); exact BK360.out) hb); have n3_ := Aside0.mk (below_step (by repeat (first | (with_reducible first | exact HB.out | apply below_alloc | apply pw_below_drewN | apply below_drew1 | refine below_set ?_ GE360.out) | exact HB.out)) hb); clear HO356; clear HO359; clear BK360; clear HB; have HO356 := n0_; have HO359 := n1_; have BK360 := n2_; have HB := n3_; clear n0_ n1_ n2_ n3_; (try clear hb); (try clear hb2); (try clear hk); (try clear hi)))
                          go_ret
                          exact ⟨by first | rfl | (simp [errW_none, errW_some] <;> rfl) | (simp [*, errW_none, errW_some] <;> rfl), by repeat (first | (with_reducible first | exact HB.out | apply below_alloc | apply pw_below_drewN | apply below_drew1 | refine below_set ?_ GE360.out) | exact HB.out)⟩
                        · rw [if_neg c160] at H
                          exact absurd H (by simp)
                      · rw [if_neg c159] at H
                        have c159b0 : ((Int.tmod (IntKind.u64.wrap (a0)) 20) == 8) = false := beq_eq_false_iff_ne.mpr c159
                        have c159b1 : ((Int.tmod (IntKind.u64.wrap (a0)) 20) != 8) = true := bne_iff_ne.mpr c159
                        by_cases c178 : (Int.tmod (IntKind.u64.wrap (a0)) 20) = 9
                        · rw [if_pos c178] at H
                          have c178b0 : ((Int.tmod (IntKind.u64.wrap (a0)) 20) == 9) = true := beq_iff_eq.mpr c178
                          have c178b1 : ((Int.tmod (IntKind.u64.wrap (a0)) 20) != 9) = false := bne_eq_false_iff_eq.mpr c178
                          clear c178
                          by_cases c179 : 2 < (y357.length : Int)
                          · rw [if_pos c179] at H
                            have c179b0 : decide (2 < (y357.length : Int)) = true := decide_eq_true c179
                            have c179b1 : decide (2 < y357.length) = true := decide_eq_true (by omega)
                            clear c179
                            obtain ⟨y380, hy380⟩ : ∃ y_ : List (S45), y_ = (y357.set (2 : Int).toNat (⟨(rd_T45 y357 2).f0, (rd_T45 y357 2).f1, (rd_T45 y357 2).f2, wrap64 (1 + (Go.bits .and .i64 a1 1023)), (rd_T45 y357 2).f4, (rd_T45 y357 2).f5, (rd_T45 y357 2).f6, (rd_T45 y357 2).f7, (rd_T45 y357 2).f8, (rd_T45 y357 2).f9⟩ : S45)) := ⟨_, rfl⟩
                            first | rw [Option.bind_some, ← hy380] at H | rw [← hy380] at H
                            (try dsimp only at H)
                            have Ny380 := Aside0.mk hy380
                            clear hy380
                            replace H := Option.bind_eq_some_iff.mp H
                            obtain ⟨t381, A1810, H⟩ := H
                            (try dsimp only at H)
                            have A181 := Aside0.mk A1810
                            clear A1810
                            obtain rfl := Option.some.inj H
                            have hcz192_0 : w20.cell? ⟨gb360, 0, none⟩ = some (.slice Ao17 y354.length co17) := (blk_cell BK360.out 0).trans rfl
                            have hcz192_1 : w20.cell? ⟨gb360, 1, none⟩ = some (.slice Ao16 y357.length co16) := (blk_cell BK360.out 1).trans rfl
                            have hfz192_0 := blk_frozen BK360.out 0
                            have hfz192_1 := blk_frozen BK360.out 1
                            have p180 : 0 ≤ (2 : Int) := (by omega)
                            have q180 : (2 : Int) < ((y357.length : Int) : Int) := of_decide_eq_true (by first | (with_reducible assumption) | assumption)
                            have qi180 : (2 < y357.length) = True := eq_true (by omega)
                            obtain ⟨go180, co180, eo180, gb180, gl180, cl180, HG180⟩ := Kd.R_form HO359.out (by omega)
                            (first | cases eo180 | (injection eo180 with ea_ en_ ec_; (first | subst ea_ | (injection ea_ with ea_; subst ea_)); subst ec_; clear en_))
                            have GB180 := Aside0.mk gb180
                            have GG180 := Aside0.mk HG180
                            clear gb180 gl180 HG180
                            obtain ⟨ce180, hcl180, hM180, hcc180, hfr180⟩ := Kd.R_elem HO359.out z45 (2 : Int) p180 q180
                            obtain rfl := k45_openM hM180
                            have hx180_0 : w20.cell? ⟨go180, (2 : Int).toNat * 10, none⟩ = some (.int .i64 ((rd_T45 y357 2).f0)) := hcc180 0 _ rfl
                            have hx180_1 : w20.cell? ⟨go180, (2 : Int).toNat * 10 + 1, none⟩ = some (.int .i64 ((rd_T45 y357 2).f1)) := hcc180 1 _ rfl
                            have hx180_2 : w20.cell? ⟨go180, (2 : Int).toNat * 10 + 2, none⟩ = some (.int .i64 ((rd_T45 y357 2).f2)) := hcc180 2 _ rfl
                            have hx180_3 : w20.cell? ⟨go180, (2 : Int).toNat * 10 + 3, none⟩ = some (.int .i64 ((rd_T45 y357 2).f3)) := hcc180 3 _ rfl
                            have hx180_4 : w20.cell? ⟨go180, (2 : Int).toNat * 10 + 4, none⟩ = some (.int .i64 ((rd_T45 y357 2).f4)) := hcc180 4 _ rfl
                            have hx180_5 : w20.cell? ⟨go180, (2 : Int).toNat * 10 + 5, none⟩ = some (.string ((rd_T45 y357 2).f5)) := hcc180 5 _ rfl
                            have hx180_6 : w20.cell? ⟨go180, (2 : Int).toNat * 10 + 6, none⟩ = some (.string ((rd_T45 y357 2).f6)) := hcc180 6 _ rfl
                            have hx180_7 : w20.cell? ⟨go180, (2 : Int).toNat * 10 + 7, none⟩ = some (.string ((rd_T45 y357 2).f7)) := hcc180 7 _ rfl
                            have hx180_8 : w20.cell? ⟨go180, (2 : Int).toNat * 10 + 8, none⟩ = some (.string ((rd_T45 y357 2).f8)) := hcc180 8 _ rfl
                            have hx180_9 : w20.cell? ⟨go180, (2 : Int).toNat * 10 + 9, none⟩ = some (.int .i64 ((rd_T45 y357 2).f9)) := hcc180 9 _ rfl
                            have hf180_0 : w20.frozen? ⟨go180, (2 : Int).toNat * 10, none⟩ = false := hfr180 0
                            have hf180_1 : w20.frozen? ⟨go180, (2 : Int).toNat * 10 + 1, none⟩ = false := hfr180 1
                            have hf180_2 : w20.frozen? ⟨go180, (2 : Int).toNat * 10 + 2, none⟩ = false := hfr180 2
                            have hf180_3 : w20.frozen? ⟨go180, (2 : Int).toNat * 10 + 3, none⟩ = false := hfr180 3
                            have hf180_4 : w20.frozen? ⟨go180, (2 : Int).toNat * 10 + 4, none⟩ = false := hfr180 4
                            have hf180_5 : w20.frozen? ⟨go180, (2 : Int).toNat * 10 + 5, none⟩ = false := hfr180 5
                            have hf180_6 : w20.frozen? ⟨go180, (2 : Int).toNat * 10 + 6, none⟩ = false := hfr180 6
                            have hf180_7 : w20.frozen? ⟨go180, (2 : Int).toNat * 10 + 7, none⟩ = false := hfr180 7
                            have hf180_8 : w20.frozen? ⟨go180, (2 : Int).toNat * 10 + 8, none⟩ = false := hfr180 8
                            have hf180_9 : w20.frozen? ⟨go180, (2 : Int).toNat * 10 + 9, none⟩ = false := hfr180 9
                            clear hcl180 hcc180 hfr180 hM180
                            (try rw [show ((2 : Int)).toNat = 2 from rfl] at hx180_0)
                            (try simp only [Nat.reduceMul, Nat.zero_mul, Nat.zero_add, Nat.reduceAdd] at hx180_0)
                            (try rw [show ((2 : Int)).toNat = 2 from rfl] at hf180_0)
                            (try simp only [Nat.reduceMul, Nat.zero_mul, Nat.zero_add, Nat.reduceAdd] at hf180_0)
                            (try rw [show ((2 : Int)).toNat = 2 from rfl] at hx180_1)
                            (try simp only [Nat.reduceMul, Nat.zero_mul, Nat.zero_add, Nat.reduceAdd] at hx180_1)
                            (try rw [show ((2 : Int)).toNat = 2 from rfl] at hf180_1)
                            (try simp only [Nat.reduceMul, Nat.zero_mul, Nat.zero_add, Nat.reduceAdd] at hf180_1)
                            (try rw [show ((2 : Int)).toNat = 2 from rfl] at hx180_2)
                            (try simp only [Nat.reduceMul, Nat.zero_mul, Nat.zero_add, Nat.reduceAdd] at hx180_2)
                            (try rw [show ((2 : Int)).toNat = 2 from rfl] at hf180_2)
                            (try simp only [Nat.reduceMul, Nat.zero_mul, Nat.zero_add, Nat.reduceAdd] at hf180_2)
                            (try rw [show ((2 : Int)).toNat = 2 from rfl] at hx180_3)
                            (try simp only [Nat.reduceMul, Nat.zero_mul, Nat.zero_add, Nat.reduceAdd] at hx180_3)
                            (try rw [show ((2 : Int)).toNat = 2 from rfl] at hf180_3)
                            (try simp only [Nat.reduceMul, Nat.zero_mul, Nat.zero_add, Nat.reduceAdd] at hf180_3)
                            (try rw [show ((2 : Int)).toNat = 2 from rfl] at hx180_4)
                            (try simp only [Nat.reduceMul, Nat.zero_mul, Nat.zero_add, Nat.reduceAdd] at hx180_4)
                            (try rw [show ((2 : Int)).toNat = 2 from rfl] at hf180_4)
                            (try simp only [Nat.reduceMul, Nat.zero_mul, Nat.zero_add, Nat.reduceAdd] at hf180_4)
                            (try rw [show ((2 : Int)).toNat = 2 from rfl] at hx180_5)
                            (try simp only [Nat.reduceMul, Nat.zero_mul, Nat.zero_add, Nat.reduceAdd] at hx180_5)
                            (try rw [show ((2 : Int)).toNat = 2 from rfl] at hf180_5)
                            (try simp only [Nat.reduceMul, Nat.zero_mul, Nat.zero_add, Nat.reduceAdd] at hf180_5)
                            (try rw [show ((2 : Int)).toNat = 2 from rfl] at hx180_6)
                            (try simp only [Nat.reduceMul, Nat.zero_mul, Nat.zero_add, Nat.reduceAdd] at hx180_6)
                            (try rw [show ((2 : Int)).toNat = 2 from rfl] at hf180_6)
                            (try simp only [Nat.reduceMul, Nat.zero_mul, Nat.zero_add, Nat.reduceAdd] at hf180_6)
                            (try rw [show ((2 : Int)).toNat = 2 from rfl] at hx180_7)
                            (try simp only [Nat.reduceMul, Nat.zero_mul, Nat.zero_add, Nat.reduceAdd] at hx180_7)
                            (try rw [show ((2 : Int)).toNat = 2 from rfl] at hf180_7)
                            (try simp only [Nat.reduceMul, Nat.zero_mul, Nat.zero_add, Nat.reduceAdd] at hf180_7)
                            (try rw [show ((2 : Int)).toNat = 2 from rfl] at hx180_8)
                            (try simp only [Nat.reduceMul, Nat.zero_mul, Nat.zero_add, Nat.reduceAdd] at hx180_8)
                            (try rw [show ((2 : Int)).toNat = 2 from rfl] at hf180_8)
                            (try simp only [Nat.reduceMul, Nat.zero_mul, Nat.zero_add, Nat.reduceAdd] at hf180_8)
                            (try rw [show ((2 : Int)).toNat = 2 from rfl] at hx180_9)
                            (try simp only [Nat.reduceMul, Nat.zero_mul, Nat.zero_add, Nat.reduceAdd] at hx180_9)
                            (try rw [show ((2 : Int)).toNat = 2 from rfl] at hf180_9)
                            (try simp only [Nat.reduceMul, Nat.zero_mul, Nat.zero_add, Nat.reduceAdd] at hf180_9)
                            replace p180 := eq_true p180
                            replace q180 := eq_true q180
                            have HX193 := Aside0.mk (show Kd.R k45 45 w20 w.heap.size (fun _ => True) (.slice (some ⟨go180, 0, none⟩) y357.length co16) y357 from (by (with_reducible repeat (first | apply Kd.R_alloc | apply Kd.R_drewN | apply Kd.R_drew)); exact HO359.out))
                            obtain ⟨ce193, hcl193, hM193, hcc193, hfr193⟩ := Kd.R_elem HX193.out z45 (2 : Int) (by omega) (by have h_ : (2 : Int) < ((y357.length : Int) : Int) := of_decide_eq_true (by first | (with_reducible assumption) | assumption); first | exact h_ | (have e_ := (Kd.R_reads' HO359.out).1; omega) | simpa using h_)
                            obtain rfl := k45_openM hM193
                            have HP193 := Kd.R_seg HX193.out (2 : Int) (by omega) (by have h_ : (2 : Int) < ((y357.length : Int) : Int) := of_decide_eq_true (by first | (with_reducible assumption) | assumption); first | exact h_ | (have e_ := (Kd.R_reads' HO359.out).1; omega) | simpa using h_) (seg := [.int .i64 (wrap64 (1 + (Go.bits .and .i64 a1 1023)))]) (j := 3) hcl193 hcc193 (show 4 ≤ 10 from by decide) (x' := (⟨(rd_T45 y357 2).f0, (rd_T45 y357 2).f1, (rd_T45 y357 2).f2, wrap64 (1 + (Go.bits .and .i64 a1 1023)), (rd_T45 y357 2).f4, (rd_T45 y357 2).f5, (rd_T45 y357 2).f6, (rd_T45 y357 2).f7, (rd_T45 y357 2).f8, (rd_T45 y357 2).f9⟩ : S45)) (k45_mkM _ _ _ (⟨(rd_T45 y357 2).f0, (rd_T45 y357 2).f1, (rd_T45 y357 2).f2, wrap64 (1 + (Go.bits .and .i64 a1 1023)), (rd_T45 y357 2).f4, (rd_T45 y357 2).f5, (rd_T45 y357 2).f6, (rd_T45 y357 2).f7, (rd_T45 y357 2).f8, (rd_T45 y357 2).f9⟩ : S45) ) (fun _ hk => hk)
                            have hx193_3 := hcc193 3 _ rfl
                            (try simp only [show (k45).sz = 10 from rfl, Nat.mul_one, Nat.add_zero] at hx193_3)
                            (try rw [show ((2 : Int)).toNat = 2 from rfl] at hx193_3)
                            (try simp only [Nat.reduceMul, Nat.zero_mul, Nat.zero_add, Nat.reduceAdd] at hx193_3)
                            have hf193_3 := hfr193 3
                            (try simp only [show (k45).sz = 10 from rfl, Nat.mul_one, Nat.add_zero] at hf193_3)
                            (try rw [show ((2 : Int)).toNat = 2 from rfl] at hf193_3)
                            (try simp only [Nat.reduceMul, Nat.zero_mul, Nat.zero_add, Nat.reduceAdd] at hf193_3)
                            clear hcl193 hcc193 hfr193 hM193
                            go_wp2_with (first | ((with_reducible refine gate_store (t := 3) (p := 101) rfl ?_); refine store_event (t := 3) (p := 101) (v := ?vo_w194) (w1 := (w20.setCell ⟨go180, 23, none⟩ (.int .i64 (wrap64 (1 + (Go.bits .and .i64 a1 1023)))))) ?hg ?ho ?hn ?hr ?_; (case ho => rfl); (case hg => rfl); (case hn => rfl); (case hr => first | (go_simp; done) | (go_simp; rfl)); intro w194 hw; have hg : w20.grownBy w194 (some go180) := (by rw [hw]; exact HP193.2); have hp_ : Kd.R k45 45 w194 w.heap.size (fun _ => True) (.slice (some ⟨go180, 0, none⟩) y357.length co16) y380 := (by rw [hw, Ny380.out]; exact HP193.1); clear HP193; have n0_ := Aside0.mk (Kd.R_over' (v := (.slice (some ⟨go180, 0, none⟩) y357.length co16)) (by (with_reducible repeat (first | apply Kd.R_alloc | apply Kd.R_drewN | apply Kd.R_drew)); exact HO356.out) (Kd.R_typed HO359.out) (by decide) hg); have n1_ := Aside0.mk (hp_); have n2_ := Aside0.mk (blk_grown (g := gb360) (o := .cells #[.slice Ao17 y354.length co17, .slice (some ⟨go180, 0, none⟩) y357.length co16] 25 (0, 0)) (by (with_reducible repeat (first | refine blk_drewN ?_ _ | refine blk_drew ?_ | refine blk_alloc ?_ _)); exact BK360.out) hg (Kd.R_ne HO359.out BK360.out (by decide))); have n3_ := Aside0.mk ((by rw [hw]; exact below_set (HB.out) GB180.out : Below w.heap.size w w194)); clear HO356; clear HO359; clear BK360; clear HB; have HO356 := n0_; have HO359 := n1_; have BK360 := n2_; have HB := n3_; clear n0_ n1_ n2_ n3_; clear hg hw hp_; have hcz195_0 : w194.cell? ⟨gb360, 0, none⟩ = some (.slice Ao17 y354.length co17) := (blk_cell BK360.out 0).trans rfl; have hcz195_1 : w194.cell? ⟨gb360, 1, none⟩ = some (.slice (some ⟨go180, 0, none⟩) y357.length co16) := (blk_cell BK360.out 1).trans rfl; have hfz195_0 := blk_frozen BK360.out 0; have hfz195_1 := blk_frozen BK360.out 1) | ((with_reducible refine gate_callee (f := 20) rfl ?_); refine goesL_ (some 165) rfl rfl Tryd.func20 (by kernel_rfl) rfl #[.agg #[.slice Ao17 y354.length co17, .slice (some ⟨go180, 0, none⟩) y380.length co16]] rfl (by (try simp only [List.map_toArray, List.map_cons, List.map_nil]); first | done | (rw [show y380.length = y357.length from (Kd.R_reads' HO359.out).1.symm] <;> rfl) | rfl | (simp only [List.length_drop, List.length_take]; rfl)) ?_; (with_reducible refine (tree_May.calls k _ _ y354 _ _ y380 t381 _ ?side1 ?side2 ?side3 ?side4 A181.out).mono ?_); (case side1 => repeat (first | (with_reducible refine Kd.C_alloc ?_ _) | (with_reducible refine Kd.C_drewN ?_ _) | (with_reducible refine Kd.C_drew ?_) | exact (Kd.R_reads' HO356.out).2.2)); (case side2 => exact (Kd.R_reads' HO356.out).2.1); (case side3 => repeat (first | (with_reducible refine Kd.C_alloc ?_ _) | (with_reducible refine Kd.C_drewN ?_ _) | (with_reducible refine Kd.C_drew ?_) | exact (Kd.R_reads' HO359.out).2.2)); (case side4 => rw [show y380.length = y357.length from (Kd.R_reads' HO359.out).1.symm]; exact (Kd.R_reads' HO359.out).2.1); rintro e w196 ⟨rfl, hb⟩; refine ⟨_, rfl, ?_⟩; have n0_ := Aside0.mk (Kd.R_below (by (with_reducible repeat (first | apply Kd.R_alloc | apply Kd.R_drewN | apply Kd.R_drew)); exact HO356.out) hb); have n1_ := Aside0.mk (Kd.R_below (by (with_reducible repeat (first | apply Kd.R_alloc | apply Kd.R_drewN | apply Kd.R_drew)); exact HO359.out) hb); have n2_ := Aside0.mk (blk_below (g := gb360) (o := .cells #[.slice Ao17 y354.length co17, .slice (some ⟨go180, 0, none⟩) y357.length co16] 25 (0, 0)) (by (with_reducible repeat (first | refine blk_drewN ?_ _ | refine blk_drew ?_ | refine blk_alloc ?_ _)); exact BK360.out) hb); have n3_ := Aside0.mk (below_step (by repeat (first | (with_reducible first | exact HB.out | apply below_alloc | apply pw_below_drewN | apply below_drew1 | refine below_set ?_ GE360.out) | exact HB.out)) hb); clear HO356; clear HO359; clear BK360; clear HB; have HO356 := n0_; have HO359 := n1_; have BK360 := n2_; have HB := n3_; clear n0_ n1_ n2_ n3_; (try clear hb); (try clear hb2); (try clear hk); (try clear hi)))
                            go_ret
                            exact ⟨by first | rfl | (simp [errW_none, errW_some] <;> rfl) | (simp [*, errW_none, errW_some] <;> rfl), by repeat (first | (with_reducible first | exact HB.out | apply below_alloc | apply pw_below_drewN | apply below_drew1 | refine below_set ?_ GE360.out) | exact HB.out)⟩
                          · rw [if_neg c179] at H
                            exact absurd H (by simp)
                        · rw [if_neg c178] at H
                          have c178b0 : ((Int.tmod (IntKind.u64.wrap (a0)) 20) == 9) = false := beq_eq_false_iff_ne.mpr c178
                          have c178b1 : ((Int.tmod (IntKind.u64.wrap (a0)) 20) != 9) = true := bne_iff_ne.mpr c178
                          exact (forms_lo HP0.out HPART.out c7 c26 c45 c64 c83 c102 c121 c140 c159 c178).elim
    · replace c6 := Bool.eq_false_iff.mpr c6
      subst c6
      have H1 := (if_neg (show ¬ (false = true) by decide)).symm.trans H
      clear H
      have H := H1
      clear H1
      exact absurd ((Option.some.inj H).trans HTRUE.out) (by decide)
  · replace c4 := Bool.eq_false_iff.mpr c4
    subst c4
    have H1 := (if_neg (show ¬ (false = true) by decide)).symm.trans H
    clear H
    have H := H1
    clear H1
    exact absurd ((Option.some.inj H).trans HTRUE.out) (by decide)

end Go.Proofs.YtnogfhhfklkbiaaDoor.H
