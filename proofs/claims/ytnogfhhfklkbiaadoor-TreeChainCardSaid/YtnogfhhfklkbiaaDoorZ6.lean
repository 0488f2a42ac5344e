/- Several texts in one: contracts of functions of the program, and what they lean on. In part written by a program of this session over the kit's print, in part by hand. -/
import Derived.Test.YtnogfhhfklkbiaaDoorZ0
import Derived.Test.YtnogfhhfklkbiaaDoorZ4
import Derived.Test.YtnogfhhfklkbiaaDoorZ3
import Derived.Test.YtnogfhhfklkbiaaDoorZ5
import Derived.Laws.BitsLemmas
import Derived.RowKit
namespace Go.Proofs.YtnogfhhfklkbiaaDoor.H
open Go.RowKit Go.Proofs.YtnogfhhfklkbiaaDoorW.PrintWords Go.Proofs.YtnogfhhfklkbiaaDoorW.PrintLast Go.Proofs.YtnogfhhfklkbiaaDoorW.PrintMore
attribute [local go_sem] max2_int min2_int max_two min_two max_three min_three max_four min_four   -- for this text's walks alone
set_option linter.unusedVariables false
set_option linter.unusedSimpArgs false

/-! ### trammellaw3_TreeChain: function 6 -/
def trammellaw3_TreeChain.l0 : Nat → Int → Int → List (S45) → Int → Option (Bool)
  | 0, _, _, _, _ => none
  | k + 1, x1, x5, x6, x7 => if x7 < x5 then ((some (([(⟨1, 0, 0, 0, x7, (⟨#[]⟩ : ByteArray), (⟨#[]⟩ : ByteArray), (⟨#[]⟩ : ByteArray), (⟨#[]⟩ : ByteArray), 0⟩ : S45), (⟨4, wrap64 (2 * x7), wrap64 ((wrap64 (2 * x7)) + 1), 0, 0, (⟨#[]⟩ : ByteArray), (⟨#[]⟩ : ByteArray), (⟨#[]⟩ : ByteArray), (⟨#[]⟩ : ByteArray), 0⟩ : S45)] : List (S45)) : List (S45))).bind fun y409 => (if x6.length + y409.length < 1256584717458 then (trammellaw3_TreeChain.l0 k x1 x5 (x6 ++ y409) (wrap64 (x7 + 1))) else (none))) else (if (IntKind.u64.wrap (x5)) = 0 then (none) else ((tree_Depth.f k x6 (wrap64 ((wrap64 (2 * (wrap64 (Int.tmod (IntKind.u64.wrap (x1)) (IntKind.u64.wrap (x5)))))) + 2))).bind fun bt415 => ((tree_Part.f k x6 (wrap64 ((wrap64 (2 * (wrap64 (Int.tmod (IntKind.u64.wrap (x1)) (IntKind.u64.wrap (x5)))))) + 2))).bind fun bt417 => ((tree_Part.f k x6 (wrap64 ((wrap64 (2 * (wrap64 (Int.tmod (IntKind.u64.wrap (x1)) (IntKind.u64.wrap (x5)))))) + 1))).bind fun bt421 => ((tree_May.f k ([] : List (S48)) x6).bind fun t425 => (if t425 = true then (if bt415.1 = (wrap64 ((wrap64 (Int.tmod (IntKind.u64.wrap (x1)) (IntKind.u64.wrap (x5)))) + 2)) then ((trammellaw0_Num.f bt415.2).bind fun t426 => (if t426 = 0 then (if 0 ≤ (wrap64 ((wrap64 (2 * (wrap64 (Int.tmod (IntKind.u64.wrap (x1)) (IntKind.u64.wrap (x5)))))) + 3)) then (if (wrap64 ((wrap64 (2 * (wrap64 (Int.tmod (IntKind.u64.wrap (x1)) (IntKind.u64.wrap (x5)))))) + 3)) ≤ (x6.length : Int) then ((trammellaw0_SameNodes.f k bt417.1 (x6.take ((wrap64 ((wrap64 (2 * (wrap64 (Int.tmod (IntKind.u64.wrap (x1)) (IntKind.u64.wrap (x5)))))) + 3)) : Int).toNat)).bind fun t431 => (if t431 = true then ((trammellaw0_Num.f bt417.2).bind fun t432 => (if t432 = 0 then ((trammellaw0_SameNodes.f k bt421.1 (([(⟨1, 0, 0, 0, wrap64 (Int.tmod (IntKind.u64.wrap (x1)) (IntKind.u64.wrap (x5))), (⟨#[]⟩ : ByteArray), (⟨#[]⟩ : ByteArray), (⟨#[]⟩ : ByteArray), (⟨#[]⟩ : ByteArray), 0⟩ : S45)] : List (S45)))).bind fun t436 => (if t436 = true then ((trammellaw0_Num.f bt421.2).bind fun t437 => (some (t437 == 0))) else (some false))) else (some false))) else (some false))) else (none)) else (none)) else (some false))) else (some false)) else (some false)))))))
def trammellaw3_TreeChain.f (k : Nat) (a0 : Int) (a1 : Int) : Option (Bool) := (trammellaw3_awake.f k).bind fun t405 => (if t405 = true then (trammellaw3_TreeChain.l0 k a1 (wrap64 (1 + (Go.bits .and .i64 a0 63))) (([(⟨0, 0, 0, 0, 0, (⟨#[102]⟩ : ByteArray), (⟨#[]⟩ : ByteArray), (⟨#[]⟩ : ByteArray), (⟨#[]⟩ : ByteArray), 0⟩ : S45)] : List (S45))) 0) else (some false))
theorem trammellaw3_TreeChain.mono_l : ∀ k, (∀ y0 y1 y2 y3, LeO (trammellaw3_TreeChain.l0 k y0 y1 y2 y3) (trammellaw3_TreeChain.l0 (k + 1) y0 y1 y2 y3))
  | 0 => fun _ _ _ _ r h => by simp [trammellaw3_TreeChain.l0] at h
  | k + 1 => by
    have ih0 := trammellaw3_TreeChain.mono_l k
    · intro y0 y1 y2 y3
      unfold trammellaw3_TreeChain.l0
      repeat' first
      | (with_reducible exact ih0 _ _ _ _)
      | (with_reducible exact trammellaw0_SameNodes.mono _ _ _)
      | (with_reducible exact trammellaw3_awake.mono _)
      | (with_reducible exact tree_Depth.mono _ _ _)
      | (with_reducible exact tree_May.mono _ _ _)
      | (with_reducible exact tree_Part.mono _ _ _)
      | (with_reducible exact LeO.refl _)
      | (with_reducible exact LeO.none _)
      | (with_reducible refine LeO.ite ?_ ?_)
      | (with_reducible refine LeO.bind ?_ (fun _ => ?_))
      | exact ih0 _ _ _ _
      | exact trammellaw0_SameNodes.mono _ _ _
      | exact trammellaw3_awake.mono _
      | exact tree_Depth.mono _ _ _
      | exact tree_May.mono _ _ _
      | exact tree_Part.mono _ _ _
      | exact LeO.none _
      | refine LeO.ite ?_ ?_
      | refine LeO.bind ?_ (fun _ => ?_)
theorem trammellaw3_TreeChain.mono : ∀ a0 a1 k, LeO (trammellaw3_TreeChain.f k a0 a1) (trammellaw3_TreeChain.f (k + 1) a0 a1) := by
  intro a0 a1 k
  have ih0 := trammellaw3_TreeChain.mono_l k
  unfold trammellaw3_TreeChain.f
  repeat' first
      | (with_reducible exact ih0 _ _ _ _)
      | (with_reducible exact trammellaw0_SameNodes.mono _ _ _)
      | (with_reducible exact trammellaw3_awake.mono _)
      | (with_reducible exact tree_Depth.mono _ _ _)
      | (with_reducible exact tree_May.mono _ _ _)
      | (with_reducible exact tree_Part.mono _ _ _)
      | (with_reducible exact LeO.refl _)
      | (with_reducible exact LeO.none _)
      | (with_reducible refine LeO.ite ?_ ?_)
      | (with_reducible refine LeO.bind ?_ (fun _ => ?_))
      | exact ih0 _ _ _ _
      | exact trammellaw0_SameNodes.mono _ _ _
      | exact trammellaw3_awake.mono _
      | exact tree_Depth.mono _ _ _
      | exact tree_May.mono _ _ _
      | exact tree_Part.mono _ _ _
      | exact LeO.none _
      | refine LeO.ite ?_ ?_
      | refine LeO.bind ?_ (fun _ => ?_)
set_option maxHeartbeats 8000000 in
set_option maxRecDepth 100000 in
theorem trammellaw3_TreeChain.callsT (k : Nat) (a0 : Int) (a1 : Int) (r : Bool) (w : World) (htrue : r = true) (h : trammellaw3_TreeChain.f k a0 a1 = some r) :
    Calls Tryd.prog 6 #[.int .i64 a0, .int .i64 a1] w fun e w' => e = .returned (.bool r) ∧ Below w.heap.size w w' := by
  have HTRUE := Aside0.mk htrue
  clear htrue
  have hu45 := Tryd.underlying45
  have hu25 := Tryd.underlying25
  have HB := Aside0.mk (Below.refl w.heap.size w)
  have H : ((trammellaw3_awake.f k).bind fun t405 => (if t405 = true then (trammellaw3_TreeChain.l0 k a1 (wrap64 (1 + (Go.bits .and .i64 a0 63))) (([(⟨0, 0, 0, 0, 0, (⟨#[102]⟩ : ByteArray), (⟨#[]⟩ : ByteArray), (⟨#[]⟩ : ByteArray), (⟨#[]⟩ : ByteArray), 0⟩ : S45)] : List (S45))) 0) else (some false))) = some r := h
  clear h
  replace H := Option.bind_eq_some_iff.mp H
  obtain ⟨t405, A30, H⟩ := H
  replace H : (if t405 = true then (trammellaw3_TreeChain.l0 k a1 (wrap64 (1 + (Go.bits .and .i64 a0 63))) (([(⟨0, 0, 0, 0, 0, (⟨#[102]⟩ : ByteArray), (⟨#[]⟩ : ByteArray), (⟨#[]⟩ : ByteArray), (⟨#[]⟩ : ByteArray), 0⟩ : S45)] : List (S45))) 0) else (some false)) = some r := H
  have A3 := Aside0.mk A30
  clear A30
  by_cases c4 : t405 = true
  · subst c4
    have H1 : (trammellaw3_TreeChain.l0 k a1 (wrap64 (1 + (Go.bits .and .i64 a0 63))) (([(⟨0, 0, 0, 0, 0, (⟨#[102]⟩ : ByteArray), (⟨#[]⟩ : ByteArray), (⟨#[]⟩ : ByteArray), (⟨#[]⟩ : ByteArray), 0⟩ : S45)] : List (S45))) 0) = some r := by rw [if_pos rfl] at H; exact H
    clear H
    have H := H1
    clear H1
    obtain ⟨y406, hy406⟩ : ∃ y_ : List (S45), y_ = (([(⟨0, 0, 0, 0, 0, (⟨#[102]⟩ : ByteArray), (⟨#[]⟩ : ByteArray), (⟨#[]⟩ : ByteArray), (⟨#[]⟩ : ByteArray), 0⟩ : S45)] : List (S45))) := ⟨_, rfl⟩
    replace H : (trammellaw3_TreeChain.l0 k a1 (wrap64 (1 + (Go.bits .and .i64 a0 63))) y406 0) = some r := by first | (rw [hy406]; with_reducible exact H) | (have H2_ := (Option.bind_some _ _).symm.trans H; rw [hy406]; with_reducible exact H2_) | (have H2_ := (Option.bind_some _ _).symm.trans H; with_reducible exact H2_) | with_reducible exact H | (rw [hy406]; exact H) | exact H
    have Ny406 := Aside0.mk hy406
    clear hy406
    have H' := Aside0.mk H
    clear H
    go_enter Tryd.func6, Tryd.ntmps6
    go_wp2_with (first | ((with_reducible refine gate_callee (f := 26) rfl ?_); refine goesL_ (some 15) rfl rfl Tryd.func26 (by kernel_rfl) rfl #[] rfl (by (try simp only [List.map_toArray, List.map_cons, List.map_nil]); first | done | rfl | (simp only [List.length_drop, List.length_take]; rfl)) ?_; (with_reducible refine (trammellaw3_awake.calls k  true _ A3.out).mono ?_); rintro e w5 ⟨rfl, hb⟩; refine ⟨_, rfl, ?_⟩; have n0_ := Aside0.mk (below_step (by repeat (first | (with_reducible first | exact HB.out | apply below_alloc | apply pw_below_drewN | apply below_drew1) | exact HB.out)) hb); clear HB; have HB := n0_; clear n0_; (try clear hb); (try clear hb2); (try clear hk); (try clear hi)) | ((with_reducible refine gate_dst (N := 21) rfl ?_); (try (refine gate_guard (by rfl) ?_; dsimp only)); refine Kd.R_lit k45 _ 45 ?hg (N := 21) ?hd (xs := ([(⟨0, 0, 0, 0, 0, (⟨#[102]⟩ : ByteArray), (⟨#[]⟩ : ByteArray), (⟨#[]⟩ : ByteArray), (⟨#[]⟩ : ByteArray), 0⟩ : S45)] : List (S45))) (inner := [.int .i64 0, .int .i64 0, .int .i64 0, .int .i64 0, .int .i64 0, .string (⟨#[102]⟩ : ByteArray), .string (⟨#[]⟩ : ByteArray), .string (⟨#[]⟩ : ByteArray), .string (⟨#[]⟩ : ByteArray), .int .i64 0]) (ok := fun _ => True) (okp := fun _ => True) ?hr ?hp (fun _ hk => hk) trivial (Below.refl _ _) (Nat.le_refl _) (by simp) ?_; (case hd => rfl); (case hg => rfl); (case hr => first | (go_simp; done) | (go_simp; rfl)); (case hp => exact (Reps.c10 (show Kd.M k45 _ _ _ (⟨0, 0, 0, 0, 0, (⟨#[102]⟩ : ByteArray), (⟨#[]⟩ : ByteArray), (⟨#[]⟩ : ByteArray), (⟨#[]⟩ : ByteArray), 0⟩ : S45) [.int .i64 0, .int .i64 0, .int .i64 0, .int .i64 0, .int .i64 0, .string (⟨#[102]⟩ : ByteArray), .string (⟨#[]⟩ : ByteArray), .string (⟨#[]⟩ : ByteArray), .string (⟨#[]⟩ : ByteArray), .int .i64 0] from (k45_mkM _ _ _ (⟨0, 0, 0, 0, 0, (⟨#[102]⟩ : ByteArray), (⟨#[]⟩ : ByteArray), (⟨#[]⟩ : ByteArray), (⟨#[]⟩ : ByteArray), 0⟩ : S45) )) (Reps.none _ _))); intro v407 w6 ho7 hb hg_ hnew_; clear hg_ hnew_; (first | rw [← Ny406.out] at ho7 | (simp only [Int.reduceToNat] at ho7; rw [← Ny406.out] at ho7)); have n0_ := Aside0.mk (Kd.R_lower ho7 (below_size (by repeat (first | (with_reducible first | exact HB.out | apply below_alloc | apply pw_below_drewN | apply below_drew1) | exact HB.out)))); have n1_ := Aside0.mk (below_step (by repeat (first | (with_reducible first | exact HB.out | apply below_alloc | apply pw_below_drewN | apply below_drew1) | exact HB.out)) hb); clear HB; have HO408 := n0_; have HB := n1_; clear n0_ n1_; clear hb ho7))
    go_loopg [6, 7] k (fun kq v6 v7 w' => ∃ (x6_1 : List (S45)) (x7_1 : Int), v7 = .int .i64 x7_1 ∧ Aside0 (trammellaw3_TreeChain.l0 kq a1 (wrap64 (1 + (Go.bits .and .i64 a0 63))) x6_1 x7_1 = some r) ∧ Aside0 (kq ≤ k) ∧ Aside0 (Kd.R k45 45 w' w.heap.size (fun _ => True) v6 x6_1) ∧ Aside0 (Below w.heap.size w w'))
    case atStart => exact ⟨(y406), (0), (by first | rfl | (simp; done) | (simp [*]; done)), H', ⟨Nat.le_refl _⟩, ⟨by (with_reducible repeat (first | apply Kd.R_alloc | apply Kd.R_drewN | apply Kd.R_drew)); exact HO408.out⟩, ⟨by repeat (first | (with_reducible first | exact HB.out | apply below_alloc | apply pw_below_drewN | apply below_drew1) | exact HB.out)⟩⟩
    case round =>
      clear H'
      try clear c1
      try clear c2
      try clear p2
      try clear c4
      try clear c6
      try clear p6
      obtain ⟨x6_1, x7_1, rfl, HA, HK1, HO_6, HB⟩ := hrel
      cases gk with
      | zero => exact absurd HA.out (by simp [trammellaw3_TreeChain.l0])
      | succ k1 =>
        have H := HA.out
        clear HA
        simp only [trammellaw3_TreeChain.l0] at H
        by_cases c8 : x7_1 < (wrap64 (1 + (Go.bits .and .i64 a0 63)))
        · rw [if_pos c8] at H
          have c8b0 : decide (x7_1 < (wrap64 (1 + (Go.bits .and .i64 a0 63)))) = true := decide_eq_true c8
          clear c8
          obtain ⟨y409, hy409⟩ : ∃ y_ : List (S45), y_ = (([(⟨1, 0, 0, 0, x7_1, (⟨#[]⟩ : ByteArray), (⟨#[]⟩ : ByteArray), (⟨#[]⟩ : ByteArray), (⟨#[]⟩ : ByteArray), 0⟩ : S45), (⟨4, wrap64 (2 * x7_1), wrap64 ((wrap64 (2 * x7_1)) + 1), 0, 0, (⟨#[]⟩ : ByteArray), (⟨#[]⟩ : ByteArray), (⟨#[]⟩ : ByteArray), (⟨#[]⟩ : ByteArray), 0⟩ : S45)] : List (S45))) := ⟨_, rfl⟩
          replace H : (if x6_1.length + y409.length < 1256584717458 then (trammellaw3_TreeChain.l0 k1 a1 (wrap64 (1 + (Go.bits .and .i64 a0 63))) (x6_1 ++ y409) (wrap64 (x7_1 + 1))) else (none)) = some r := by first | (rw [hy409]; with_reducible exact H) | (have H2_ := (Option.bind_some _ _).symm.trans H; rw [hy409]; with_reducible exact H2_) | (have H2_ := (Option.bind_some _ _).symm.trans H; with_reducible exact H2_) | with_reducible exact H | (rw [hy409]; exact H) | exact H
          have Ny409 := Aside0.mk hy409
          clear hy409
          by_cases c9 : x6_1.length + y409.length < 1256584717458
          · rw [if_pos c9] at H
            have LMc9 := Aside0.mk c9
            clear c9
            obtain ⟨y412, hy412⟩ : ∃ y_ : List (S45), y_ = (x6_1 ++ y409) := ⟨_, rfl⟩
            replace H : (trammellaw3_TreeChain.l0 k1 a1 (wrap64 (1 + (Go.bits .and .i64 a0 63))) y412 (wrap64 (x7_1 + 1))) = some r := by first | (rw [hy412]; with_reducible exact H) | (have H2_ := (Option.bind_some _ _).symm.trans H; rw [hy412]; with_reducible exact H2_) | (have H2_ := (Option.bind_some _ _).symm.trans H; with_reducible exact H2_) | with_reducible exact H | (rw [hy412]; exact H) | exact H
            have Ny412 := Aside0.mk hy412
            clear hy412
            have H' := Aside0.mk H
            clear H
            go_wp2_with (first | ((with_reducible refine gate_dst (N := 36) rfl ?_); (try (refine gate_guard (by rfl) ?_; dsimp only)); refine Kd.R_lit k45 _ 45 ?hg (N := 36) ?hd (xs := ([(⟨1, 0, 0, 0, x7_1, (⟨#[]⟩ : ByteArray), (⟨#[]⟩ : ByteArray), (⟨#[]⟩ : ByteArray), (⟨#[]⟩ : ByteArray), 0⟩ : S45), (⟨4, wrap64 (2 * x7_1), wrap64 ((wrap64 (2 * x7_1)) + 1), 0, 0, (⟨#[]⟩ : ByteArray), (⟨#[]⟩ : ByteArray), (⟨#[]⟩ : ByteArray), (⟨#[]⟩ : ByteArray), 0⟩ : S45)] : List (S45))) (inner := [.int .i64 1, .int .i64 0, .int .i64 0, .int .i64 0, .int .i64 x7_1, .string (⟨#[]⟩ : ByteArray), .string (⟨#[]⟩ : ByteArray), .string (⟨#[]⟩ : ByteArray), .string (⟨#[]⟩ : ByteArray), .int .i64 0, .int .i64 4, .int .i64 (wrap64 (2 * x7_1)), .int .i64 (wrap64 ((wrap64 (2 * x7_1)) + 1)), .int .i64 0, .int .i64 0, .string (⟨#[]⟩ : ByteArray), .string (⟨#[]⟩ : ByteArray), .string (⟨#[]⟩ : ByteArray), .string (⟨#[]⟩ : ByteArray), .int .i64 0]) (ok := fun _ => True) (okp := fun _ => True) ?hr ?hp (fun _ hk => hk) trivial (Below.refl _ _) (Nat.le_refl _) (by simp) ?_; (case hd => rfl); (case hg => rfl); (case hr => first | (go_simp; done) | (go_simp; rfl)); (case hp => exact (Reps.c10 (show Kd.M k45 _ _ _ (⟨1, 0, 0, 0, x7_1, (⟨#[]⟩ : ByteArray), (⟨#[]⟩ : ByteArray), (⟨#[]⟩ : ByteArray), (⟨#[]⟩ : ByteArray), 0⟩ : S45) [.int .i64 1, .int .i64 0, .int .i64 0, .int .i64 0, .int .i64 x7_1, .string (⟨#[]⟩ : ByteArray), .string (⟨#[]⟩ : ByteArray), .string (⟨#[]⟩ : ByteArray), .string (⟨#[]⟩ : ByteArray), .int .i64 0] from (k45_mkM _ _ _ (⟨1, 0, 0, 0, x7_1, (⟨#[]⟩ : ByteArray), (⟨#[]⟩ : ByteArray), (⟨#[]⟩ : ByteArray), (⟨#[]⟩ : ByteArray), 0⟩ : S45) )) (Reps.c10 (show Kd.M k45 _ _ _ (⟨4, wrap64 (2 * x7_1), wrap64 ((wrap64 (2 * x7_1)) + 1), 0, 0, (⟨#[]⟩ : ByteArray), (⟨#[]⟩ : ByteArray), (⟨#[]⟩ : ByteArray), (⟨#[]⟩ : ByteArray), 0⟩ : S45) [.int .i64 4, .int .i64 (wrap64 (2 * x7_1)), .int .i64 (wrap64 ((wrap64 (2 * x7_1)) + 1)), .int .i64 0, .int .i64 0, .string (⟨#[]⟩ : ByteArray), .string (⟨#[]⟩ : ByteArray), .string (⟨#[]⟩ : ByteArray), .string (⟨#[]⟩ : ByteArray), .int .i64 0] from (k45_mkM _ _ _ (⟨4, wrap64 (2 * x7_1), wrap64 ((wrap64 (2 * x7_1)) + 1), 0, 0, (⟨#[]⟩ : ByteArray), (⟨#[]⟩ : ByteArray), (⟨#[]⟩ : ByteArray), (⟨#[]⟩ : ByteArray), 0⟩ : S45) )) (Reps.none _ _)))); intro v410 w10 ho11 hb hg_ hnew_; clear hg_ hnew_; (first | rw [← Ny409.out] at ho11 | (simp only [Int.reduceToNat] at ho11; rw [← Ny409.out] at ho11)); have n0_ := Aside0.mk (Kd.R_elder' (by (with_reducible repeat (first | apply Kd.R_alloc | apply Kd.R_drewN | apply Kd.R_drew)); exact HO_6.out) (Kd.R_base ho11) hb); have n1_ := Aside0.mk (Kd.R_lower (Kd.R_new' ho11 (Kd.R_lt (by (with_reducible repeat (first | apply Kd.R_alloc | apply Kd.R_drewN | apply Kd.R_drew)); exact HO_6.out))) (below_size (by repeat (first | (with_reducible first | exact HB.out | apply below_alloc | apply pw_below_drewN | apply below_drew1) | exact HB.out)))); have n2_ := Aside0.mk (below_step (by repeat (first | (with_reducible first | exact HB.out | apply below_alloc | apply pw_below_drewN | apply below_drew1) | exact HB.out)) hb); clear HO_6; clear HB; have HO_6 := n0_; have HO411 := n1_; have HB := n2_; clear n0_ n1_ n2_; clear hb ho11; obtain ⟨Ao13, co13, eo13⟩ := Kd.R_slice HO411.out; subst eo13) | ((with_reducible refine gate_builtin (b := .append) (xs := #[.tmp 27, .tmp 36]) rfl ?_); (try (refine gate_guard (by rfl) ?_; dsimp only)); at_builtin; refine Kd.R_append_rows k45 (w0 := w) w.heap.size rfl (.tmp 27) (.tmp 36) 23 45 (.agg #[(.int .i64 0), (.int .i64 0), (.int .i64 0), (.int .i64 0), (.int .i64 0), (.string ⟨#[]⟩), (.string ⟨#[]⟩), (.string ⟨#[]⟩), (.string ⟨#[]⟩), (.int .i64 0)]) 112 rfl Tryd.underlying23 info45 rfl (by decide) (by omega) u6 x6_1 y409 _ _ _ (fun k_ => some k_ ≠ (.slice Ao13 y409.length co13 : Value).ownBlock) (fun _ => False) rfl rfl ?aO ?aR (fun _ _ h => h) (fun _ h => h.elim) ?aF ?aB ?aS ?aL ?_; (case aR => repeat (first | exact (Kd.R_reads' HO411.out).2.2 | (with_reducible refine Kd.C_alloc ?_ _) | (with_reducible refine Kd.C_drewN ?_ _) | (with_reducible refine Kd.C_drew ?_))); (case aB => exact (by repeat (first | (with_reducible first | exact HB.out | apply below_alloc | apply pw_below_drewN | apply below_drew1) | exact HB.out))); (case aF => exact (fun k_ hk => Kd.fresh' (Kd.R_lt (by (with_reducible repeat (first | apply Kd.R_alloc | apply Kd.R_drewN | apply Kd.R_drew)); exact HO411.out)) k_ hk)); (case aO => exact (by (with_reducible repeat (first | apply Kd.R_alloc | apply Kd.R_drewN | apply Kd.R_drew)); exact Kd.R_mono HO_6.out (fun _ hk => hk.2))); (case aS => exact (below_size (by repeat (first | (with_reducible first | exact HB.out | apply below_alloc | apply pw_below_drewN | apply below_drew1) | exact HB.out)))); (case aL => have := LMc9.out; omega); intro v413 w12 ho hb hg hat; rw [← Ny412.out] at ho; have n0_ := Aside0.mk (Kd.R_after (ok := (fun _ => True)) (by (with_reducible repeat (first | apply Kd.R_alloc | apply Kd.R_drewN | apply Kd.R_drew)); exact HO411.out) hg hat); have n1_ := Aside0.mk (hb); have n2_ := Aside0.mk (ho); clear HO411; clear HB; clear HO_6; have HO411 := n0_; have HB := n1_; have HO414 := n2_; clear n0_ n1_ n2_; clear ho hb hg hat))
            go_roundg k1
            case measure => have := HK1.out; omega
            case rel => exact ⟨(y412), (wrap64 (x7_1 + 1)), (by first | rfl | (simp; done) | (simp [*]; done)), H', ⟨by have := HK1.out; omega⟩, ⟨by (with_reducible repeat (first | apply Kd.R_alloc | apply Kd.R_drewN | apply Kd.R_drew)); exact Kd.R_mono HO414.out (fun _ hk => trivial)⟩, ⟨by repeat (first | (with_reducible first | exact HB.out | apply below_alloc | apply pw_below_drewN | apply below_drew1) | exact HB.out)⟩⟩
          · rw [if_neg c9] at H
            exact absurd H (by simp)
        · rw [if_neg c8] at H
          have c8b0 : decide (x7_1 < (wrap64 (1 + (Go.bits .and .i64 a0 63)))) = false := decide_eq_false c8
          clear c8
          by_cases c14 : (IntKind.u64.wrap ((wrap64 (1 + (Go.bits .and .i64 a0 63))))) = 0
          · rw [if_pos c14] at H
            exact absurd H (by simp)
          · rw [if_neg c14] at H
            have c14b0 : ((IntKind.u64.wrap ((wrap64 (1 + (Go.bits .and .i64 a0 63))))) == 0) = false := beq_eq_false_iff_ne.mpr c14
            have c14b1 : ((IntKind.u64.wrap ((wrap64 (1 + (Go.bits .and .i64 a0 63))))) != 0) = true := bne_iff_ne.mpr c14
            replace H := Option.bind_eq_some_iff.mp H
            obtain ⟨⟨t415, t416⟩, A150, H⟩ := H
            replace H : ((tree_Part.f k1 x6_1 (wrap64 ((wrap64 (2 * (wrap64 (Int.tmod (IntKind.u64.wrap (a1)) (IntKind.u64.wrap ((wrap64 (1 + (Go.bits .and .i64 a0 63))))))))) + 2))).bind fun bt417 => ((tree_Part.f k1 x6_1 (wrap64 ((wrap64 (2 * (wrap64 (Int.tmod (IntKind.u64.wrap (a1)) (IntKind.u64.wrap ((wrap64 (1 + (Go.bits .and .i64 a0 63))))))))) + 1))).bind fun bt421 => ((tree_May.f k1 ([] : List (S48)) x6_1).bind fun t425 => (if t425 = true then (if t415 = (wrap64 ((wrap64 (Int.tmod (IntKind.u64.wrap (a1)) (IntKind.u64.wrap ((wrap64 (1 + (Go.bits .and .i64 a0 63))))))) + 2)) then ((trammellaw0_Num.f t416).bind fun t426 => (if t426 = 0 then (if 0 ≤ (wrap64 ((wrap64 (2 * (wrap64 (Int.tmod (IntKind.u64.wrap (a1)) (IntKind.u64.wrap ((wrap64 (1 + (Go.bits .and .i64 a0 63))))))))) + 3)) then (if (wrap64 ((wrap64 (2 * (wrap64 (Int.tmod (IntKind.u64.wrap (a1)) (IntKind.u64.wrap ((wrap64 (1 + (Go.bits .and .i64 a0 63))))))))) + 3)) ≤ (x6_1.length : Int) then ((trammellaw0_SameNodes.f k1 bt417.1 (x6_1.take ((wrap64 ((wrap64 (2 * (wrap64 (Int.tmod (IntKind.u64.wrap (a1)) (IntKind.u64.wrap ((wrap64 (1 + (Go.bits .and .i64 a0 63))))))))) + 3)) : Int).toNat)).bind fun t431 => (if t431 = true then ((trammellaw0_Num.f bt417.2).bind fun t432 => (if t432 = 0 then ((trammellaw0_SameNodes.f k1 bt421.1 (([(⟨1, 0, 0, 0, wrap64 (Int.tmod (IntKind.u64.wrap (a1)) (IntKind.u64.wrap ((wrap64 (1 + (Go.bits .and .i64 a0 63)))))), (⟨#[]⟩ : ByteArray), (⟨#[]⟩ : ByteArray), (⟨#[]⟩ : ByteArray), (⟨#[]⟩ : ByteArray), 0⟩ : S45)] : List (S45)))).bind fun t436 => (if t436 = true then ((trammellaw0_Num.f bt421.2).bind fun t437 => (some (t437 == 0))) else (some false))) else (some false))) else (some false))) else (none)) else (none)) else (some false))) else (some false)) else (some false))))) = some r := H
            have A15 := Aside0.mk A150
            clear A150
            replace H := Option.bind_eq_some_iff.mp H
            obtain ⟨⟨t417, t418⟩, A160, H⟩ := H
            replace H : ((tree_Part.f k1 x6_1 (wrap64 ((wrap64 (2 * (wrap64 (Int.tmod (IntKind.u64.wrap (a1)) (IntKind.u64.wrap ((wrap64 (1 + (Go.bits .and .i64 a0 63))))))))) + 1))).bind fun bt421 => ((tree_May.f k1 ([] : List (S48)) x6_1).bind fun t425 => (if t425 = true then (if t415 = (wrap64 ((wrap64 (Int.tmod (IntKind.u64.wrap (a1)) (IntKind.u64.wrap ((wrap64 (1 + (Go.bits .and .i64 a0 63))))))) + 2)) then ((trammellaw0_Num.f t416).bind fun t426 => (if t426 = 0 then (if 0 ≤ (wrap64 ((wrap64 (2 * (wrap64 (Int.tmod (IntKind.u64.wrap (a1)) (IntKind.u64.wrap ((wrap64 (1 + (Go.bits .and .i64 a0 63))))))))) + 3)) then (if (wrap64 ((wrap64 (2 * (wrap64 (Int.tmod (IntKind.u64.wrap (a1)) (IntKind.u64.wrap ((wrap64 (1 + (Go.bits .and .i64 a0 63))))))))) + 3)) ≤ (x6_1.length : Int) then ((trammellaw0_SameNodes.f k1 t417 (x6_1.take ((wrap64 ((wrap64 (2 * (wrap64 (Int.tmod (IntKind.u64.wrap (a1)) (IntKind.u64.wrap ((wrap64 (1 + (Go.bits .and .i64 a0 63))))))))) + 3)) : Int).toNat)).bind fun t431 => (if t431 = true then ((trammellaw0_Num.f t418).bind fun t432 => (if t432 = 0 then ((trammellaw0_SameNodes.f k1 bt421.1 (([(⟨1, 0, 0, 0, wrap64 (Int.tmod (IntKind.u64.wrap (a1)) (IntKind.u64.wrap ((wrap64 (1 + (Go.bits .and .i64 a0 63)))))), (⟨#[]⟩ : ByteArray), (⟨#[]⟩ : ByteArray), (⟨#[]⟩ : ByteArray), (⟨#[]⟩ : ByteArray), 0⟩ : S45)] : List (S45)))).bind fun t436 => (if t436 = true then ((trammellaw0_Num.f bt421.2).bind fun t437 => (some (t437 == 0))) else (some false))) else (some false))) else (some false))) else (none)) else (none)) else (some false))) else (some false)) else (some false)))) = some r := H
            have A16 := Aside0.mk A160
            clear A160
            replace H := Option.bind_eq_some_iff.mp H
            obtain ⟨⟨t421, t422⟩, A170, H⟩ := H
            replace H : ((tree_May.f k1 ([] : List (S48)) x6_1).bind fun t425 => (if t425 = true then (if t415 = (wrap64 ((wrap64 (Int.tmod (IntKind.u64.wrap (a1)) (IntKind.u64.wrap ((wrap64 (1 + (Go.bits .and .i64 a0 63))))))) + 2)) then ((trammellaw0_Num.f t416).bind fun t426 => (if t426 = 0 then (if 0 ≤ (wrap64 ((wrap64 (2 * (wrap64 (Int.tmod (IntKind.u64.wrap (a1)) (IntKind.u64.wrap ((wrap64 (1 + (Go.bits .and .i64 a0 63))))))))) + 3)) then (if (wrap64 ((wrap64 (2 * (wrap64 (Int.tmod (IntKind.u64.wrap (a1)) (IntKind.u64.wrap ((wrap64 (1 + (Go.bits .and .i64 a0 63))))))))) + 3)) ≤ (x6_1.length : Int) then ((trammellaw0_SameNodes.f k1 t417 (x6_1.take ((wrap64 ((wrap64 (2 * (wrap64 (Int.tmod (IntKind.u64.wrap (a1)) (IntKind.u64.wrap ((wrap64 (1 + (Go.bits .and .i64 a0 63))))))))) + 3)) : Int).toNat)).bind fun t431 => (if t431 = true then ((trammellaw0_Num.f t418).bind fun t432 => (if t432 = 0 then ((trammellaw0_SameNodes.f k1 t421 (([(⟨1, 0, 0, 0, wrap64 (Int.tmod (IntKind.u64.wrap (a1)) (IntKind.u64.wrap ((wrap64 (1 + (Go.bits .and .i64 a0 63)))))), (⟨#[]⟩ : ByteArray), (⟨#[]⟩ : ByteArray), (⟨#[]⟩ : ByteArray), (⟨#[]⟩ : ByteArray), 0⟩ : S45)] : List (S45)))).bind fun t436 => (if t436 = true then ((trammellaw0_Num.f t422).bind fun t437 => (some (t437 == 0))) else (some false))) else (some false))) else (some false))) else (none)) else (none)) else (some false))) else (some false)) else (some false))) = some r := H
            have A17 := Aside0.mk A170
            clear A170
            replace H := Option.bind_eq_some_iff.mp H
            obtain ⟨t425, A180, H⟩ := H
            replace H : (if t425 = true then (if t415 = (wrap64 ((wrap64 (Int.tmod (IntKind.u64.wrap (a1)) (IntKind.u64.wrap ((wrap64 (1 + (Go.bits .and .i64 a0 63))))))) + 2)) then ((trammellaw0_Num.f t416).bind fun t426 => (if t426 = 0 then (if 0 ≤ (wrap64 ((wrap64 (2 * (wrap64 (Int.tmod (IntKind.u64.wrap (a1)) (IntKind.u64.wrap ((wrap64 (1 + (Go.bits .and .i64 a0 63))))))))) + 3)) then (if (wrap64 ((wrap64 (2 * (wrap64 (Int.tmod (IntKind.u64.wrap (a1)) (IntKind.u64.wrap ((wrap64 (1 + (Go.bits .and .i64 a0 63))))))))) + 3)) ≤ (x6_1.length : Int) then ((trammellaw0_SameNodes.f k1 t417 (x6_1.take ((wrap64 ((wrap64 (2 * (wrap64 (Int.tmod (IntKind.u64.wrap (a1)) (IntKind.u64.wrap ((wrap64 (1 + (Go.bits .and .i64 a0 63))))))))) + 3)) : Int).toNat)).bind fun t431 => (if t431 = true then ((trammellaw0_Num.f t418).bind fun t432 => (if t432 = 0 then ((trammellaw0_SameNodes.f k1 t421 (([(⟨1, 0, 0, 0, wrap64 (Int.tmod (IntKind.u64.wrap (a1)) (IntKind.u64.wrap ((wrap64 (1 + (Go.bits .and .i64 a0 63)))))), (⟨#[]⟩ : ByteArray), (⟨#[]⟩ : ByteArray), (⟨#[]⟩ : ByteArray), (⟨#[]⟩ : ByteArray), 0⟩ : S45)] : List (S45)))).bind fun t436 => (if t436 = true then ((trammellaw0_Num.f t422).bind fun t437 => (some (t437 == 0))) else (some false))) else (some false))) else (some false))) else (none)) else (none)) else (some false))) else (some false)) else (some false)) = some r := H
            have A18 := Aside0.mk A180
            clear A180
            by_cases c19 : t425 = true
            · subst c19
              have H1 : (if t415 = (wrap64 ((wrap64 (Int.tmod (IntKind.u64.wrap (a1)) (IntKind.u64.wrap ((wrap64 (1 + (Go.bits .and .i64 a0 63))))))) + 2)) then ((trammellaw0_Num.f t416).bind fun t426 => (if t426 = 0 then (if 0 ≤ (wrap64 ((wrap64 (2 * (wrap64 (Int.tmod (IntKind.u64.wrap (a1)) (IntKind.u64.wrap ((wrap64 (1 + (Go.bits .and .i64 a0 63))))))))) + 3)) then (if (wrap64 ((wrap64 (2 * (wrap64 (Int.tmod (IntKind.u64.wrap (a1)) (IntKind.u64.wrap ((wrap64 (1 + (Go.bits .and .i64 a0 63))))))))) + 3)) ≤ (x6_1.length : Int) then ((trammellaw0_SameNodes.f k1 t417 (x6_1.take ((wrap64 ((wrap64 (2 * (wrap64 (Int.tmod (IntKind.u64.wrap (a1)) (IntKind.u64.wrap ((wrap64 (1 + (Go.bits .and .i64 a0 63))))))))) + 3)) : Int).toNat)).bind fun t431 => (if t431 = true then ((trammellaw0_Num.f t418).bind fun t432 => (if t432 = 0 then ((trammellaw0_SameNodes.f k1 t421 (([(⟨1, 0, 0, 0, wrap64 (Int.tmod (IntKind.u64.wrap (a1)) (IntKind.u64.wrap ((wrap64 (1 + (Go.bits .and .i64 a0 63)))))), (⟨#[]⟩ : ByteArray), (⟨#[]⟩ : ByteArray), (⟨#[]⟩ : ByteArray), (⟨#[]⟩ : ByteArray), 0⟩ : S45)] : List (S45)))).bind fun t436 => (if t436 = true then ((trammellaw0_Num.f t422).bind fun t437 => (some (t437 == 0))) else (some false))) else (some false))) else (some false))) else (none)) else (none)) else (some false))) else (some false)) = some r := by rw [if_pos rfl] at H; exact H
              clear H
              have H := H1
              clear H1
              by_cases c20 : t415 = (wrap64 ((wrap64 (Int.tmod (IntKind.u64.wrap (a1)) (IntKind.u64.wrap ((wrap64 (1 + (Go.bits .and .i64 a0 63))))))) + 2))
              · rw [if_pos c20] at H
                have c20b0 : (t415 == (wrap64 ((wrap64 (Int.tmod (IntKind.u64.wrap (a1)) (IntKind.u64.wrap ((wrap64 (1 + (Go.bits .and .i64 a0 63))))))) + 2))) = true := beq_iff_eq.mpr c20
                have c20b1 : (t415 != (wrap64 ((wrap64 (Int.tmod (IntKind.u64.wrap (a1)) (IntKind.u64.wrap ((wrap64 (1 + (Go.bits .and .i64 a0 63))))))) + 2))) = false := bne_eq_false_iff_eq.mpr c20
                clear c20
                replace H := Option.bind_eq_some_iff.mp H
                obtain ⟨t426, A210, H⟩ := H
                replace H : (if t426 = 0 then (if 0 ≤ (wrap64 ((wrap64 (2 * (wrap64 (Int.tmod (IntKind.u64.wrap (a1)) (IntKind.u64.wrap ((wrap64 (1 + (Go.bits .and .i64 a0 63))))))))) + 3)) then (if (wrap64 ((wrap64 (2 * (wrap64 (Int.tmod (IntKind.u64.wrap (a1)) (IntKind.u64.wrap ((wrap64 (1 + (Go.bits .and .i64 a0 63))))))))) + 3)) ≤ (x6_1.length : Int) then ((trammellaw0_SameNodes.f k1 t417 (x6_1.take ((wrap64 ((wrap64 (2 * (wrap64 (Int.tmod (IntKind.u64.wrap (a1)) (IntKind.u64.wrap ((wrap64 (1 + (Go.bits .and .i64 a0 63))))))))) + 3)) : Int).toNat)).bind fun t431 => (if t431 = true then ((trammellaw0_Num.f t418).bind fun t432 => (if t432 = 0 then ((trammellaw0_SameNodes.f k1 t421 (([(⟨1, 0, 0, 0, wrap64 (Int.tmod (IntKind.u64.wrap (a1)) (IntKind.u64.wrap ((wrap64 (1 + (Go.bits .and .i64 a0 63)))))), (⟨#[]⟩ : ByteArray), (⟨#[]⟩ : ByteArray), (⟨#[]⟩ : ByteArray), (⟨#[]⟩ : ByteArray), 0⟩ : S45)] : List (S45)))).bind fun t436 => (if t436 = true then ((trammellaw0_Num.f t422).bind fun t437 => (some (t437 == 0))) else (some false))) else (some false))) else (some false))) else (none)) else (none)) else (some false)) = some r := H
                have A21 := Aside0.mk A210
                clear A210
                by_cases c22 : t426 = 0
                · rw [if_pos c22] at H
                  have c22b0 : (t426 == 0) = true := beq_iff_eq.mpr c22
                  have c22b1 : (t426 != 0) = false := bne_eq_false_iff_eq.mpr c22
                  clear c22
                  obtain ⟨ji23, hji23⟩ : ∃ j_ : Int, (wrap64 ((wrap64 (2 * (wrap64 (Int.tmod (IntKind.u64.wrap (a1)) (IntKind.u64.wrap ((wrap64 (1 + (Go.bits .and .i64 a0 63))))))))) + 3)) = j_ := ⟨_, rfl⟩
                  replace H : (if 0 ≤ (ji23) then (if (ji23) ≤ (x6_1.length : Int) then ((trammellaw0_SameNodes.f k1 t417 (x6_1.take ((ji23) : Int).toNat)).bind fun t431 => (if t431 = true then ((trammellaw0_Num.f t418).bind fun t432 => (if t432 = 0 then ((trammellaw0_SameNodes.f k1 t421 (([(⟨1, 0, 0, 0, wrap64 (Int.tmod (IntKind.u64.wrap (a1)) (IntKind.u64.wrap ((wrap64 (1 + (Go.bits .and .i64 a0 63)))))), (⟨#[]⟩ : ByteArray), (⟨#[]⟩ : ByteArray), (⟨#[]⟩ : ByteArray), (⟨#[]⟩ : ByteArray), 0⟩ : S45)] : List (S45)))).bind fun t436 => (if t436 = true then ((trammellaw0_Num.f t422).bind fun t437 => (some (t437 == 0))) else (some false))) else (some false))) else (some false))) else (none)) else (none)) = some r := by first | (rw [hji23] at H; exact H) | (simp only [hji23] at H ⊢; exact H)
                  (try rw [hji23] at A15)
                  (try rw [hji23] at A16)
                  (try rw [hji23] at A17)
                  (try rw [hji23] at A18)
                  (try rw [hji23] at A21)
                  have hji23w : (IntKind.i64.wrap ((wrap64 (2 * (wrap64 (Int.tmod (IntKind.u64.wrap (a1)) (IntKind.u64.wrap ((wrap64 (1 + (Go.bits .and .i64 a0 63))))))))) + 3)) = ji23 := (i64_w _).trans hji23
                  by_cases c24 : 0 ≤ (ji23)
                  · rw [if_pos c24] at H
                    have c24b0 := eq_true c24
                    have c24b1 : decide (0 ≤ (ji23)) = true := decide_eq_true c24
                    clear c24
                    by_cases c25 : (ji23) ≤ (x6_1.length : Int)
                    · rw [if_pos c25] at H
                      have c25b0 := eq_true c25
                      have c25b1 : decide ((ji23) ≤ (x6_1.length : Int)) = true := decide_eq_true c25
                      clear c25
                      obtain ⟨y427, hy427⟩ : ∃ y_ : List (S45), y_ = (x6_1.take ((ji23) : Int).toNat) := ⟨_, rfl⟩
                      replace H : ((trammellaw0_SameNodes.f k1 t417 y427).bind fun t431 => (if t431 = true then ((trammellaw0_Num.f t418).bind fun t432 => (if t432 = 0 then ((trammellaw0_SameNodes.f k1 t421 (([(⟨1, 0, 0, 0, wrap64 (Int.tmod (IntKind.u64.wrap (a1)) (IntKind.u64.wrap ((wrap64 (1 + (Go.bits .and .i64 a0 63)))))), (⟨#[]⟩ : ByteArray), (⟨#[]⟩ : ByteArray), (⟨#[]⟩ : ByteArray), (⟨#[]⟩ : ByteArray), 0⟩ : S45)] : List (S45)))).bind fun t436 => (if t436 = true then ((trammellaw0_Num.f t422).bind fun t437 => (some (t437 == 0))) else (some false))) else (some false))) else (some false))) = some r := by first | (rw [hy427]; with_reducible exact H) | (have H2_ := (Option.bind_some _ _).symm.trans H; rw [hy427]; with_reducible exact H2_) | (have H2_ := (Option.bind_some _ _).symm.trans H; with_reducible exact H2_) | with_reducible exact H | (rw [hy427]; exact H) | exact H
                      have Ny427 := Aside0.mk hy427
                      clear hy427
                      replace H := Option.bind_eq_some_iff.mp H
                      obtain ⟨t431, A260, H⟩ := H
                      replace H : (if t431 = true then ((trammellaw0_Num.f t418).bind fun t432 => (if t432 = 0 then ((trammellaw0_SameNodes.f k1 t421 (([(⟨1, 0, 0, 0, wrap64 (Int.tmod (IntKind.u64.wrap (a1)) (IntKind.u64.wrap ((wrap64 (1 + (Go.bits .and .i64 a0 63)))))), (⟨#[]⟩ : ByteArray), (⟨#[]⟩ : ByteArray), (⟨#[]⟩ : ByteArray), (⟨#[]⟩ : ByteArray), 0⟩ : S45)] : List (S45)))).bind fun t436 => (if t436 = true then ((trammellaw0_Num.f t422).bind fun t437 => (some (t437 == 0))) else (some false))) else (some false))) else (some false)) = some r := H
                      have A26 := Aside0.mk A260
                      clear A260
                      by_cases c27 : t431 = true
                      · subst c27
                        have H1 : ((trammellaw0_Num.f t418).bind fun t432 => (if t432 = 0 then ((trammellaw0_SameNodes.f k1 t421 (([(⟨1, 0, 0, 0, wrap64 (Int.tmod (IntKind.u64.wrap (a1)) (IntKind.u64.wrap ((wrap64 (1 + (Go.bits .and .i64 a0 63)))))), (⟨#[]⟩ : ByteArray), (⟨#[]⟩ : ByteArray), (⟨#[]⟩ : ByteArray), (⟨#[]⟩ : ByteArray), 0⟩ : S45)] : List (S45)))).bind fun t436 => (if t436 = true then ((trammellaw0_Num.f t422).bind fun t437 => (some (t437 == 0))) else (some false))) else (some false))) = some r := by rw [if_pos rfl] at H; exact H
                        clear H
                        have H := H1
                        clear H1
                        replace H := Option.bind_eq_some_iff.mp H
                        obtain ⟨t432, A280, H⟩ := H
                        replace H : (if t432 = 0 then ((trammellaw0_SameNodes.f k1 t421 (([(⟨1, 0, 0, 0, wrap64 (Int.tmod (IntKind.u64.wrap (a1)) (IntKind.u64.wrap ((wrap64 (1 + (Go.bits .and .i64 a0 63)))))), (⟨#[]⟩ : ByteArray), (⟨#[]⟩ : ByteArray), (⟨#[]⟩ : ByteArray), (⟨#[]⟩ : ByteArray), 0⟩ : S45)] : List (S45)))).bind fun t436 => (if t436 = true then ((trammellaw0_Num.f t422).bind fun t437 => (some (t437 == 0))) else (some false))) else (some false)) = some r := H
                        have A28 := Aside0.mk A280
                        clear A280
                        by_cases c29 : t432 = 0
                        · rw [if_pos c29] at H
                          have c29b0 : (t432 == 0) = true := beq_iff_eq.mpr c29
                          have c29b1 : (t432 != 0) = false := bne_eq_false_iff_eq.mpr c29
                          clear c29
                          obtain ⟨y433, hy433⟩ : ∃ y_ : List (S45), y_ = (([(⟨1, 0, 0, 0, wrap64 (Int.tmod (IntKind.u64.wrap (a1)) (IntKind.u64.wrap ((wrap64 (1 + (Go.bits .and .i64 a0 63)))))), (⟨#[]⟩ : ByteArray), (⟨#[]⟩ : ByteArray), (⟨#[]⟩ : ByteArray), (⟨#[]⟩ : ByteArray), 0⟩ : S45)] : List (S45))) := ⟨_, rfl⟩
                          replace H : ((trammellaw0_SameNodes.f k1 t421 y433).bind fun t436 => (if t436 = true then ((trammellaw0_Num.f t422).bind fun t437 => (some (t437 == 0))) else (some false))) = some r := by first | (rw [hy433]; with_reducible exact H) | (have H2_ := (Option.bind_some _ _).symm.trans H; rw [hy433]; with_reducible exact H2_) | (have H2_ := (Option.bind_some _ _).symm.trans H; with_reducible exact H2_) | with_reducible exact H | (rw [hy433]; exact H) | exact H
                          have Ny433 := Aside0.mk hy433
                          clear hy433
                          replace H := Option.bind_eq_some_iff.mp H
                          obtain ⟨t436, A300, H⟩ := H
                          replace H : (if t436 = true then ((trammellaw0_Num.f t422).bind fun t437 => (some (t437 == 0))) else (some false)) = some r := H
                          have A30 := Aside0.mk A300
                          clear A300
                          by_cases c31 : t436 = true
                          · subst c31
                            have H1 : ((trammellaw0_Num.f t422).bind fun t437 => (some (t437 == 0))) = some r := by rw [if_pos rfl] at H; exact H
                            clear H
                            have H := H1
                            clear H1
                            replace H := Option.bind_eq_some_iff.mp H
                            obtain ⟨t437, A320, H⟩ := H
                            replace H : (some (t437 == 0)) = some r := H
                            have A32 := Aside0.mk A320
                            clear A320
                            obtain rfl := Option.some.inj H
                            obtain ⟨Ao33, co33, eo33⟩ := Kd.R_slice HO_6.out
                            subst eo33
                            go_wp2_with (first | ((with_reducible refine gate_callee (f := 14) rfl ?_); refine goesL_ (some 49) rfl rfl Tryd.func14 (by kernel_rfl) rfl #[.slice Ao33 x6_1.length co33, .int .i64 (wrap64 ((wrap64 (2 * (wrap64 (Int.tmod (IntKind.u64.wrap (a1)) (IntKind.u64.wrap ((wrap64 (1 + (Go.bits .and .i64 a0 63))))))))) + 2))] rfl (by (try simp only [List.map_toArray, List.map_cons, List.map_nil]); first | done | rfl | (simp only [List.length_drop, List.length_take]; rfl)) ?_; (with_reducible refine (tree_Depth.calls k1 _ _ x6_1 (wrap64 ((wrap64 (2 * (wrap64 (Int.tmod (IntKind.u64.wrap (a1)) (IntKind.u64.wrap ((wrap64 (1 + (Go.bits .and .i64 a0 63))))))))) + 2)) t415 t416 _ ?side1 ?side2 A15.out).mono ?_); (case side1 => repeat (first | exact (Kd.R_reads' HO_6.out).2.2 | (with_reducible refine Kd.C_alloc ?_ _) | (with_reducible refine Kd.C_drewN ?_ _) | (with_reducible refine Kd.C_drew ?_))); (case side2 => exact (Kd.R_reads' HO_6.out).2.1); rintro e w34 ⟨rfl, hb⟩; refine ⟨_, rfl, ?_⟩; have n0_ := Aside0.mk (Kd.R_below (by (with_reducible repeat (first | apply Kd.R_alloc | apply Kd.R_drewN | apply Kd.R_drew)); exact HO_6.out) hb); have n1_ := Aside0.mk (below_step (by repeat (first | (with_reducible first | exact HB.out | apply below_alloc | apply pw_below_drewN | apply below_drew1) | exact HB.out)) hb); clear HO_6; clear HB; have HO_6 := n0_; have HB := n1_; clear n0_ n1_; (try clear hb); (try clear hb2); (try clear hk); (try clear hi)) | ((with_reducible refine gate_callee (f := 16) rfl ?_); refine goesL_ (some 57) rfl rfl Tryd.func16 (by kernel_rfl) rfl #[.slice Ao33 x6_1.length co33, .int .i64 (wrap64 ((wrap64 (2 * (wrap64 (Int.tmod (IntKind.u64.wrap (a1)) (IntKind.u64.wrap ((wrap64 (1 + (Go.bits .and .i64 a0 63))))))))) + 2))] rfl (by (try simp only [List.map_toArray, List.map_cons, List.map_nil]); first | done | rfl | (simp only [List.length_drop, List.length_take]; rfl)) ?_; (with_reducible refine (tree_Part.calls k1 _ _ x6_1 (wrap64 ((wrap64 (2 * (wrap64 (Int.tmod (IntKind.u64.wrap (a1)) (IntKind.u64.wrap ((wrap64 (1 + (Go.bits .and .i64 a0 63))))))))) + 2)) t417 t418 _ ?side1 ?side2 A16.out).mono ?_); (case side1 => repeat (first | exact (Kd.R_reads' HO_6.out).2.2 | (with_reducible refine Kd.C_alloc ?_ _) | (with_reducible refine Kd.C_drewN ?_ _) | (with_reducible refine Kd.C_drew ?_))); (case side2 => exact (Kd.R_reads' HO_6.out).2.1); rintro e w35 ⟨v419, rfl, ho0, hb⟩; refine ⟨_, rfl, ?_⟩; have n0_ := Aside0.mk (Kd.R_elder' (by (with_reducible repeat (first | apply Kd.R_alloc | apply Kd.R_drewN | apply Kd.R_drew)); exact HO_6.out) (Kd.R_base ho0) hb); have n1_ := Aside0.mk (Kd.R_lower (Kd.R_new' ho0 (Kd.R_lt (by (with_reducible repeat (first | apply Kd.R_alloc | apply Kd.R_drewN | apply Kd.R_drew)); exact HO_6.out))) (below_size (by repeat (first | (with_reducible first | exact HB.out | apply below_alloc | apply pw_below_drewN | apply below_drew1) | exact HB.out)))); have n2_ := Aside0.mk (below_step (by repeat (first | (with_reducible first | exact HB.out | apply below_alloc | apply pw_below_drewN | apply below_drew1) | exact HB.out)) hb); clear HO_6; clear HB; have HO_6 := n0_; have HO420 := n1_; have HB := n2_; clear n0_ n1_ n2_; (try clear hb); (try clear hb2); (try clear hk); (try clear hi); (try clear ho0)) | ((with_reducible refine gate_callee (f := 16) rfl ?_); refine goesL_ (some 65) rfl rfl Tryd.func16 (by kernel_rfl) rfl #[.slice Ao33 x6_1.length co33, .int .i64 (wrap64 ((wrap64 (2 * (wrap64 (Int.tmod (IntKind.u64.wrap (a1)) (IntKind.u64.wrap ((wrap64 (1 + (Go.bits .and .i64 a0 63))))))))) + 1))] rfl (by (try simp only [List.map_toArray, List.map_cons, List.map_nil]); first | done | rfl | (simp only [List.length_drop, List.length_take]; rfl)) ?_; (with_reducible refine (tree_Part.calls k1 _ _ x6_1 (wrap64 ((wrap64 (2 * (wrap64 (Int.tmod (IntKind.u64.wrap (a1)) (IntKind.u64.wrap ((wrap64 (1 + (Go.bits .and .i64 a0 63))))))))) + 1)) t421 t422 _ ?side1 ?side2 A17.out).mono ?_); (case side1 => repeat (first | exact (Kd.R_reads' HO_6.out).2.2 | (with_reducible refine Kd.C_alloc ?_ _) | (with_reducible refine Kd.C_drewN ?_ _) | (with_reducible refine Kd.C_drew ?_))); (case side2 => exact (Kd.R_reads' HO_6.out).2.1); rintro e w36 ⟨v423, rfl, ho0, hb⟩; refine ⟨_, rfl, ?_⟩; have n0_ := Aside0.mk (Kd.R_elder' (by (with_reducible repeat (first | apply Kd.R_alloc | apply Kd.R_drewN | apply Kd.R_drew)); exact HO_6.out) (Kd.R_base ho0) hb); have n1_ := Aside0.mk (Kd.R_elder' (by (with_reducible repeat (first | apply Kd.R_alloc | apply Kd.R_drewN | apply Kd.R_drew)); exact HO420.out) (Kd.R_base ho0) hb); have n2_ := Aside0.mk (Kd.R_lower (Kd.R_new' (Kd.R_new' ho0 (Kd.R_lt (by (with_reducible repeat (first | apply Kd.R_alloc | apply Kd.R_drewN | apply Kd.R_drew)); exact HO_6.out))) (Kd.R_lt (by (with_reducible repeat (first | apply Kd.R_alloc | apply Kd.R_drewN | apply Kd.R_drew)); exact HO420.out))) (below_size (by repeat (first | (with_reducible first | exact HB.out | apply below_alloc | apply pw_below_drewN | apply below_drew1) | exact HB.out)))); have n3_ := Aside0.mk (below_step (by repeat (first | (with_reducible first | exact HB.out | apply below_alloc | apply pw_below_drewN | apply below_drew1) | exact HB.out)) hb); clear HO_6; clear HO420; clear HB; have HO_6 := n0_; have HO420 := n1_; have HO424 := n2_; have HB := n3_; clear n0_ n1_ n2_ n3_; (try clear hb); (try clear hb2); (try clear hk); (try clear hi); (try clear ho0)) | ((with_reducible refine gate_callee (f := 20) rfl ?_); refine goesL_ (some 70) rfl rfl Tryd.func20 (by kernel_rfl) rfl #[.agg #[.slice none 0 0, .slice Ao33 x6_1.length co33]] rfl (by (try simp only [List.map_toArray, List.map_cons, List.map_nil]); first | done | rfl | (simp only [List.length_drop, List.length_take]; rfl)) ?_; (refine (tree_May.calls k1 _ _ ([] : List (S48)) _ _ x6_1 true _ ?side1 ?side2 ?side3 ?side4 A18.out).mono ?_); (case side1 => exact Kd.C_nil _ _); (case side2 => exact Nat.le_refl _); (case side3 => repeat (first | exact (Kd.R_reads' HO_6.out).2.2 | (with_reducible refine Kd.C_alloc ?_ _) | (with_reducible refine Kd.C_drewN ?_ _) | (with_reducible refine Kd.C_drew ?_))); (case side4 => exact (Kd.R_reads' HO_6.out).2.1); rintro e w37 ⟨rfl, hb⟩; refine ⟨_, rfl, ?_⟩; have n0_ := Aside0.mk (Kd.R_below (by (with_reducible repeat (first | apply Kd.R_alloc | apply Kd.R_drewN | apply Kd.R_drew)); exact HO_6.out) hb); have n1_ := Aside0.mk (Kd.R_below (by (with_reducible repeat (first | apply Kd.R_alloc | apply Kd.R_drewN | apply Kd.R_drew)); exact HO420.out) hb); have n2_ := Aside0.mk (Kd.R_below (by (with_reducible repeat (first | apply Kd.R_alloc | apply Kd.R_drewN | apply Kd.R_drew)); exact HO424.out) hb); have n3_ := Aside0.mk (below_step (by repeat (first | (with_reducible first | exact HB.out | apply below_alloc | apply pw_below_drewN | apply below_drew1) | exact HB.out)) hb); clear HO_6; clear HO420; clear HO424; clear HB; have HO_6 := n0_; have HO420 := n1_; have HO424 := n2_; have HB := n3_; clear n0_ n1_ n2_ n3_; (try clear hb); (try clear hb2); (try clear hk); (try clear hi)) | (go_at_call 18; (with_reducible refine (trammellaw0_Num.calls t416 t426 _ A21.out).mono ?_); rintro e w' ⟨rfl, ⟨nd, rfl⟩⟩; have q38 : ((ji23) : Int) ≤ ((x6_1.length : Int) : Int) := of_decide_eq_true (by first | (with_reducible assumption) | assumption); obtain ⟨i038, hi038, _, hsz38, _⟩ := info_parts info45; have hroom38 : x6_1.length ≤ co33 := (Kd.R_reads' HO_6.out).2.1; have hC38 : Kd.C k45 _ Ao33 x6_1.length x6_1 := (Kd.R_reads' HO_6.out).2.2; have hcut38 := cut_to (P := Tryd.prog) 23 45 .i64 Tryd.underlying23 hi038 Ao33 x6_1.length co33 (ji23) (of_decide_eq_true (by first | (with_reducible assumption) | assumption)) q38 hroom38; have hr38 := Kd.C_take (m := ((ji23) : Int).toNat) hC38 (by omega); have hy38 : y427.length = ((ji23) : Int).toNat := (by rw [Ny427.out, List.length_take]; omega); rw [← Ny427.out] at hr38; rw [← hy38] at hcut38; have HR430 := Aside0.mk hr38; have HC430 := Aside0.mk (show y427.length ≤ co33 from by omega); clear hr38 hC38 hroom38 hi038 hsz38; have KY38 := Aside0.mk hy38; clear hy38; have KL38 := Aside0.mk (show ((ji23) : Int).toNat ≤ x6_1.length from by omega); replace q38 := eq_true q38; obtain ⟨Ao39, co39, eo39⟩ := Kd.R_slice HO420.out; subst eo39) | (go_at_call 19; (with_reducible refine (trammellaw0_SameNodes.calls k1 _ _ t417 _ _ y427 true _ ?side1 ?side2 ?side3 ?side4 A26.out).mono ?_); (case side1 => repeat (first | exact (Kd.R_reads' HO420.out).2.2 | (with_reducible refine Kd.C_alloc ?_ _) | (with_reducible refine Kd.C_drewN ?_ _) | (with_reducible refine Kd.C_drew ?_))); (case side2 => exact (Kd.R_reads' HO420.out).2.1); (case side3 => repeat (first | exact (by repeat (first | (with_reducible exact HR430.out) | (with_reducible refine Kd.C_alloc ?_ _) | (with_reducible refine Kd.C_drewN ?_ _) | (with_reducible refine Kd.C_drew ?_) | exact HR430.out)) | (with_reducible refine Kd.C_alloc ?_ _) | (with_reducible refine Kd.C_drewN ?_ _) | (with_reducible refine Kd.C_drew ?_))); (case side4 => exact HC430.out); rintro e w' ⟨rfl, ⟨nd, rfl⟩⟩) | (go_at_call 18; (with_reducible refine (trammellaw0_Num.calls t418 t432 _ A28.out).mono ?_); rintro e w' ⟨rfl, ⟨nd, rfl⟩⟩) | ((with_reducible refine gate_dst (N := 100) rfl ?_); (try (refine gate_guard (by rfl) ?_; dsimp only)); refine Kd.R_lit k45 _ 45 ?hg (N := 100) ?hd (xs := ([(⟨1, 0, 0, 0, wrap64 (Int.tmod (IntKind.u64.wrap (a1)) (IntKind.u64.wrap ((wrap64 (1 + (Go.bits .and .i64 a0 63)))))), (⟨#[]⟩ : ByteArray), (⟨#[]⟩ : ByteArray), (⟨#[]⟩ : ByteArray), (⟨#[]⟩ : ByteArray), 0⟩ : S45)] : List (S45))) (inner := [.int .i64 1, .int .i64 0, .int .i64 0, .int .i64 0, .int .i64 (wrap64 (Int.tmod (IntKind.u64.wrap (a1)) (IntKind.u64.wrap ((wrap64 (1 + (Go.bits .and .i64 a0 63))))))), .string (⟨#[]⟩ : ByteArray), .string (⟨#[]⟩ : ByteArray), .string (⟨#[]⟩ : ByteArray), .string (⟨#[]⟩ : ByteArray), .int .i64 0]) (ok := fun _ => True) (okp := fun _ => True) ?hr ?hp (fun _ hk => hk) trivial (Below.refl _ _) (Nat.le_refl _) (by simp) ?_; (case hd => rfl); (case hg => rfl); (case hr => first | (go_simp; done) | (go_simp; rfl)); (case hp => exact (Reps.c10 (show Kd.M k45 _ _ _ (⟨1, 0, 0, 0, wrap64 (Int.tmod (IntKind.u64.wrap (a1)) (IntKind.u64.wrap ((wrap64 (1 + (Go.bits .and .i64 a0 63)))))), (⟨#[]⟩ : ByteArray), (⟨#[]⟩ : ByteArray), (⟨#[]⟩ : ByteArray), (⟨#[]⟩ : ByteArray), 0⟩ : S45) [.int .i64 1, .int .i64 0, .int .i64 0, .int .i64 0, .int .i64 (wrap64 (Int.tmod (IntKind.u64.wrap (a1)) (IntKind.u64.wrap ((wrap64 (1 + (Go.bits .and .i64 a0 63))))))), .string (⟨#[]⟩ : ByteArray), .string (⟨#[]⟩ : ByteArray), .string (⟨#[]⟩ : ByteArray), .string (⟨#[]⟩ : ByteArray), .int .i64 0] from (k45_mkM _ _ _ (⟨1, 0, 0, 0, wrap64 (Int.tmod (IntKind.u64.wrap (a1)) (IntKind.u64.wrap ((wrap64 (1 + (Go.bits .and .i64 a0 63)))))), (⟨#[]⟩ : ByteArray), (⟨#[]⟩ : ByteArray), (⟨#[]⟩ : ByteArray), (⟨#[]⟩ : ByteArray), 0⟩ : S45) )) (Reps.none _ _))); intro v434 w40 ho41 hb hg_ hnew_; clear hg_ hnew_; (first | rw [← Ny433.out] at ho41 | (simp only [Int.reduceToNat] at ho41; rw [← Ny433.out] at ho41)); have n0_ := Aside0.mk (Kd.R_elder' (by (with_reducible repeat (first | apply Kd.R_alloc | apply Kd.R_drewN | apply Kd.R_drew)); exact HO_6.out) (Kd.R_base ho41) hb); have n1_ := Aside0.mk (Kd.R_elder' (by (with_reducible repeat (first | apply Kd.R_alloc | apply Kd.R_drewN | apply Kd.R_drew)); exact HO420.out) (Kd.R_base ho41) hb); have n2_ := Aside0.mk (Kd.R_elder' (by (with_reducible repeat (first | apply Kd.R_alloc | apply Kd.R_drewN | apply Kd.R_drew)); exact HO424.out) (Kd.R_base ho41) hb); have n3_ := Aside0.mk (Kd.R_lower (Kd.R_new' (Kd.R_new' (Kd.R_new' ho41 (Kd.R_lt (by (with_reducible repeat (first | apply Kd.R_alloc | apply Kd.R_drewN | apply Kd.R_drew)); exact HO_6.out))) (Kd.R_lt (by (with_reducible repeat (first | apply Kd.R_alloc | apply Kd.R_drewN | apply Kd.R_drew)); exact HO420.out))) (Kd.R_lt (by (with_reducible repeat (first | apply Kd.R_alloc | apply Kd.R_drewN | apply Kd.R_drew)); exact HO424.out))) (below_size (by repeat (first | (with_reducible first | exact HB.out | apply below_alloc | apply pw_below_drewN | apply below_drew1) | exact HB.out)))); have n4_ := Aside0.mk (Kd.C_below (by repeat (first | (with_reducible exact HR430.out) | (with_reducible refine Kd.C_alloc ?_ _) | (with_reducible refine Kd.C_drewN ?_ _) | (with_reducible refine Kd.C_drew ?_) | exact HR430.out)) hb); have n5_ := Aside0.mk (below_step (by repeat (first | (with_reducible first | exact HB.out | apply below_alloc | apply pw_below_drewN | apply below_drew1) | exact HB.out)) hb); clear HO_6; clear HO420; clear HO424; clear HR430; clear HB; have HO_6 := n0_; have HO420 := n1_; have HO424 := n2_; have HO435 := n3_; have HR430 := n4_; have HB := n5_; clear n0_ n1_ n2_ n3_ n4_ n5_; clear hb ho41; obtain ⟨Ao42, co42, eo42⟩ := Kd.R_slice HO424.out; subst eo42; obtain ⟨Ao43, co43, eo43⟩ := Kd.R_slice HO435.out; subst eo43) | (go_at_call 19; (with_reducible refine (trammellaw0_SameNodes.calls k1 _ _ t421 _ _ y433 true _ ?side1 ?side2 ?side3 ?side4 A30.out).mono ?_); (case side1 => repeat (first | exact (Kd.R_reads' HO424.out).2.2 | (with_reducible refine Kd.C_alloc ?_ _) | (with_reducible refine Kd.C_drewN ?_ _) | (with_reducible refine Kd.C_drew ?_))); (case side2 => exact (Kd.R_reads' HO424.out).2.1); (case side3 => repeat (first | exact (Kd.R_reads' HO435.out).2.2 | (with_reducible refine Kd.C_alloc ?_ _) | (with_reducible refine Kd.C_drewN ?_ _) | (with_reducible refine Kd.C_drew ?_))); (case side4 => exact (Kd.R_reads' HO435.out).2.1); rintro e w' ⟨rfl, ⟨nd, rfl⟩⟩) | (go_at_call 18; (with_reducible refine (trammellaw0_Num.calls t422 t437 _ A32.out).mono ?_); rintro e w' ⟨rfl, ⟨nd, rfl⟩⟩))
                            go_ret
                            exact ⟨by first | rfl | (simp [errW_none, errW_some] <;> rfl) | (simp only [← hji23]; first | rfl | (simp [errW_none, errW_some] <;> rfl)) | (simp [*, errW_none, errW_some] <;> rfl), by repeat (first | (with_reducible first | exact HB.out | apply below_alloc | apply pw_below_drewN | apply below_drew1) | exact HB.out)⟩
                          · replace c31 := Bool.eq_false_iff.mpr c31
                            subst c31
                            have H1 : (some false) = some r := by rw [if_neg (show ¬ (false = true) by decide)] at H; exact H
                            clear H
                            have H := H1
                            clear H1
                            exact absurd ((Option.some.inj H).trans HTRUE.out) (by decide)
                        · rw [if_neg c29] at H
                          have c29b0 : (t432 == 0) = false := beq_eq_false_iff_ne.mpr c29
                          have c29b1 : (t432 != 0) = true := bne_iff_ne.mpr c29
                          exact absurd ((Option.some.inj H).trans HTRUE.out) (by decide)
                      · replace c27 := Bool.eq_false_iff.mpr c27
                        subst c27
                        have H1 : (some false) = some r := by rw [if_neg (show ¬ (false = true) by decide)] at H; exact H
                        clear H
                        have H := H1
                        clear H1
                        exact absurd ((Option.some.inj H).trans HTRUE.out) (by decide)
                    · rw [if_neg c25] at H
                      exact absurd H (by simp)
                  · rw [if_neg c24] at H
                    exact absurd H (by simp)
                · rw [if_neg c22] at H
                  have c22b0 : (t426 == 0) = false := beq_eq_false_iff_ne.mpr c22
                  have c22b1 : (t426 != 0) = true := bne_iff_ne.mpr c22
                  exact absurd ((Option.some.inj H).trans HTRUE.out) (by decide)
              · rw [if_neg c20] at H
                have c20b0 : (t415 == (wrap64 ((wrap64 (Int.tmod (IntKind.u64.wrap (a1)) (IntKind.u64.wrap ((wrap64 (1 + (Go.bits .and .i64 a0 63))))))) + 2))) = false := beq_eq_false_iff_ne.mpr c20
                have c20b1 : (t415 != (wrap64 ((wrap64 (Int.tmod (IntKind.u64.wrap (a1)) (IntKind.u64.wrap ((wrap64 (1 + (Go.bits .and .i64 a0 63))))))) + 2))) = true := bne_iff_ne.mpr c20
                exact absurd ((Option.some.inj H).trans HTRUE.out) (by decide)
            · replace c19 := Bool.eq_false_iff.mpr c19
              subst c19
              have H1 : (some false) = some r := by rw [if_neg (show ¬ (false = true) by decide)] at H; exact H
              clear H
              have H := H1
              clear H1
              exact absurd ((Option.some.inj H).trans HTRUE.out) (by decide)
  · replace c4 := Bool.eq_false_iff.mpr c4
    subst c4
    have H1 : (some false) = some r := by rw [if_neg (show ¬ (false = true) by decide)] at H; exact H
    clear H
    have H := H1
    clear H1
    exact absurd ((Option.some.inj H).trans HTRUE.out) (by decide)

end Go.Proofs.YtnogfhhfklkbiaaDoor.H

set_option linter.unusedVariables false
namespace Go.Proofs.YtnogfhhfklkbiaaDoor.Bits
open Go.RowKit

theorem wrap_i64_mem {n : Int} (h0 : 0 ≤ n) (h1 : n < 2 ^ 63) : IntKind.i64.wrap n = n := by
  rw [IntKind.wrap_i64]
  omega

/-- A mask of the low bits, of any number. -/
theorem and_mask (i : Nat) (hi : i ≤ 62) (x : Int) : bits .and .i64 x (2 ^ i - 1) = x % 2 ^ i := by
  have hpos : 0 < 2 ^ i := Nat.two_pow_pos i
  have hle : 2 ^ i ≤ 2 ^ 62 := Nat.pow_le_pow_right (by decide) hi
  have hc : ((2 : Int) ^ i - 1) = ((2 ^ i - 1 : Nat) : Int) := by
    rw [Int.natCast_sub hpos]; simp
  have e : bits .and .i64 x (2 ^ i - 1) = IntKind.i64.wrap (((x % ((2 ^ 64 : Nat) : Int)).toNat &&& (2 ^ i - 1) : Nat) : Int) := by
    rw [hc]
    have hb : (2 ^ i - 1) % 2 ^ IntKind.i64.bits = 2 ^ i - 1 := Nat.mod_eq_of_lt (by
      show 2 ^ i - 1 < 2 ^ 64
      omega)
    simp only [bits, BitVec.ofInt_natCast, BitVec.toNat_and, BitVec.toNat_ofNat, BitVec.toNat_ofInt, hb]
    rfl
  rw [e, Nat.and_two_pow_sub_one_eq_mod]
  have hlt : (x % ((2 ^ 64 : Nat) : Int)).toNat % 2 ^ i < 2 ^ i := Nat.mod_lt _ hpos
  rw [wrap_i64_mem (by omega) (by omega)]
  have hn : (0 : Int) ≤ x % ((2 ^ 64 : Nat) : Int) := Int.emod_nonneg _ (by decide)
  rw [Int.natCast_emod, Int.toNat_of_nonneg hn]
  have hd : ((2 : Int) ^ i) ∣ ((2 ^ 64 : Nat) : Int) := by
    refine ⟨((2 ^ (64 - i) : Nat) : Int), ?_⟩
    have : (2 : Nat) ^ 64 = 2 ^ i * 2 ^ (64 - i) := by rw [← Nat.pow_add]; congr 1; omega
    rw [this]
    simp
  rw [show ((2 ^ i : Nat) : Int) = (2 : Int) ^ i from by simp]
  exact Int.emod_emod_of_dvd x hd

theorem or_join (i : Nat) (x y : Int) (hi : i ≤ 62) (hx0 : 0 ≤ x) (hx : x % 2 ^ i = 0) (hx1 : x < 2 ^ 62) (hy0 : 0 ≤ y) (hy : y < 2 ^ i) : bits .or .i64 x y = x + y :=
  bits_join .i64 62 (by decide) (fun n h0 h1 => wrap_i64_mem h0 (by omega)) i x y hx0 hx hx1 hy0 hy (by
    have : (2 : Int) ^ i ≤ 2 ^ 62 := by exact_mod_cast (Nat.pow_le_pow_right (by decide) hi : (2:Nat) ^ i ≤ 2 ^ 62)
    omega)

theorem and63 (x : Int) : bits .and .i64 x 63 = x % 64 := and_mask 6 (by decide) x
theorem and127 (x : Int) : bits .and .i64 x 127 = x % 128 := and_mask 7 (by decide) x
theorem and1023 (x : Int) : bits .and .i64 x 1023 = x % 1024 := and_mask 10 (by decide) x
theorem and31 (x : Int) : bits .and .i64 x 31 = x % 32 := and_mask 5 (by decide) x
theorem and3 (x : Int) : bits .and .i64 x 3 = x % 4 := and_mask 2 (by decide) x
theorem and1 (x : Int) : bits .and .i64 x 1 = x % 2 := and_mask 1 (by decide) x
theorem and1073741823 (x : Int) : bits .and .i64 x 1073741823 = x % 1073741824 := and_mask 30 (by decide) x
theorem or128 (y : Int) (h0 : 0 ≤ y) (h1 : y < 64) : bits .or .i64 128 y = 128 + y := or_join 6 128 y (by decide) (by decide) (by decide) (by decide) h0 h1
theorem or192 (y : Int) (h0 : 0 ≤ y) (h1 : y < 64) : bits .or .i64 192 y = 192 + y := or_join 6 192 y (by decide) (by decide) (by decide) (by decide) h0 h1
theorem or224 (y : Int) (h0 : 0 ≤ y) (h1 : y < 32) : bits .or .i64 224 y = 224 + y := or_join 5 224 y (by decide) (by decide) (by decide) (by decide) h0 h1
theorem or240 (y : Int) (h0 : 0 ≤ y) (h1 : y < 16) : bits .or .i64 240 y = 240 + y := or_join 4 240 y (by decide) (by decide) (by decide) (by decide) h0 h1
theorem u64_wrap (x : Int) : IntKind.u64.wrap x = x % 18446744073709551616 := by
  simp [IntKind.wrap, IntKind.bits, IntKind.signed]
/-- 'int(uint(x) % m)'. -/
theorem u64_mod (x m : Int) (hm0 : 0 < m) (hm : m ≤ 4294967296) : wrap64 (Int.tmod (IntKind.u64.wrap x) m) = (x % 18446744073709551616) % m := by
  have h0 : 0 ≤ x % 18446744073709551616 := Int.emod_nonneg _ (by decide)
  rw [u64_wrap, Int.tmod_eq_emod_of_nonneg h0]
  have h1 := Int.emod_nonneg (x % 18446744073709551616) (b := m) (by omega)
  have h2 := Int.emod_lt_of_pos (x % 18446744073709551616) hm0
  unfold wrap64
  omega
end Go.Proofs.YtnogfhhfklkbiaaDoor.Bits

set_option linter.unusedVariables false
set_option linter.unusedSimpArgs false
set_option maxHeartbeats 1000000
namespace Go.Proofs.YtnogfhhfklkbiaaDoor.H
open Go.RowKit Go.Proofs.YtnogfhhfklkbiaaDoorW.PrintWords Go.Proofs.YtnogfhhfklkbiaaDoorW.PrintLast Go.Proofs.YtnogfhhfklkbiaaDoorW.PrintMore

def chF : S45 := ⟨0, 0, 0, 0, 0, (⟨#[102]⟩ : ByteArray), (⟨#[]⟩ : ByteArray), (⟨#[]⟩ : ByteArray), (⟨#[]⟩ : ByteArray), 0⟩
def chI (i : Nat) : S45 := ⟨1, 0, 0, 0, (i : Int), (⟨#[]⟩ : ByteArray), (⟨#[]⟩ : ByteArray), (⟨#[]⟩ : ByteArray), (⟨#[]⟩ : ByteArray), 0⟩
def chA (i : Nat) : S45 := ⟨4, 2 * (i : Int), 2 * (i : Int) + 1, 0, 0, (⟨#[]⟩ : ByteArray), (⟨#[]⟩ : ByteArray), (⟨#[]⟩ : ByteArray), (⟨#[]⟩ : ByteArray), 0⟩
def chain : Nat → List S45
  | 0 => [chF]
  | m + 1 => chain m ++ [chI m, chA m]
theorem chain_len (m : Nat) : (chain m).length = 2 * m + 1 := by
  induction m with
  | zero => rfl
  | succ m ih => rw [chain, List.length_append, ih]; simp; omega
theorem chain_prefix {m n : Nat} (h : m ≤ n) : chain m <+: chain n := by
  induction n with
  | zero => rw [show m = 0 by omega]; exact List.prefix_refl _
  | succ n ih =>
    by_cases e : m = n + 1
    · rw [e]; exact List.prefix_refl _
    · exact (ih (by omega)).trans (List.prefix_append _ _)
theorem chain_take {m n : Nat} (h : m ≤ n) : (chain n).take (2 * m + 1) = chain m := by
  have := List.prefix_iff_eq_take.1 (chain_prefix h)
  rw [chain_len] at this
  exact this.symm
theorem chain_get {m i : Nat} (h : i < m) : (chain m)[2 * i + 1]? = some (chI i) ∧ (chain m)[2 * i + 2]? = some (chA i) := by
  have hp := chain_prefix (show i + 1 ≤ m by omega)
  obtain ⟨t, ht⟩ := hp
  have hl := chain_len i
  rw [← ht, chain]
  constructor
  · rw [List.append_assoc, List.getElem?_append_right (by omega), hl, show 2 * i + 1 - (2 * i + 1) = 0 by omega]
    rfl
  · rw [List.append_assoc, List.getElem?_append_right (by omega), hl, show 2 * i + 2 - (2 * i + 1) = 1 by omega]
    rfl
theorem chain_zero (m : Nat) : (chain m)[0]? = some chF := by
  obtain ⟨t, ht⟩ := chain_prefix (show 0 ≤ m by omega)
  rw [← ht]
  rfl
theorem rd_of {l : List S45} {i : Nat} {x : S45} (h : l[i]? = some x) : rd_T45 l (i : Int) = x := by
  obtain ⟨hi, rfl⟩ := List.getElem?_eq_some_iff.1 h
  exact rd_at l i hi
theorem chain_begin_int (m c k : Nat) (h : c < m) : tree_Begin.f (k + 1) (chain m) ((2 * c + 1 : Nat) : Int) = some ((2 * c + 1 : Nat) : Int) := by
  rw [tree_Begin.f, if_pos (by omega), if_pos (by rw [chain_len]; omega), rd_of (chain_get h).1]
  rfl
theorem chain_begin (m : Nat) (hm : m ≤ 1000000) : ∀ (c k : Nat), c < m → c + 2 ≤ k → tree_Begin.f k (chain m) ((2 * c + 2 : Nat) : Int) = some 0 := by
  intro c
  induction c with
  | zero =>
    intro k h hk
    obtain ⟨k, rfl⟩ : ∃ n, k = n + 2 := ⟨k - 2, by omega⟩
    rw [tree_Begin.f, if_pos (by omega), if_pos (by rw [chain_len]; omega), rd_of (chain_get h).2]
    have e : (kidsOf (chA 0)).reverse = [((2 * 0 + 1 : Nat) : Int), ((0 : Nat) : Int)] := by decide
    rw [e, goB, show wrap64 (((2 * 0 + 2 : Nat) : Int) - 1) = ((2 * 0 + 1 : Nat) : Int) from by unfold wrap64; decide, if_neg (by decide), if_pos rfl, chain_begin_int m 0 k h, Option.bind_some, if_neg (by decide), goB,
      show wrap64 (((2 * 0 + 1 : Nat) : Int) - 1) = ((0 : Nat) : Int) from by unfold wrap64; decide, if_neg (by decide), if_pos rfl, tree_Begin.f, if_pos (by decide), if_pos (by rw [chain_len]; omega), rd_of (chain_zero m)]
    rfl
  | succ c ih =>
    intro k h hk
    obtain ⟨k, rfl⟩ : ∃ n, k = n + 2 := ⟨k - 2, by omega⟩
    rw [tree_Begin.f, if_pos (by omega), if_pos (by rw [chain_len]; omega), rd_of (chain_get h).2]
    have e : (kidsOf (chA (c + 1))).reverse = [((2 * (c + 1) + 1 : Nat) : Int), ((2 * c + 2 : Nat) : Int)] := by
      show [2 * ((c + 1 : Nat) : Int) + 1, 2 * ((c + 1 : Nat) : Int)] = _
      congr 1
    rw [e, goB, show wrap64 (((2 * (c + 1) + 2 : Nat) : Int) - 1) = ((2 * (c + 1) + 1 : Nat) : Int) from by unfold wrap64; omega, if_neg (by omega), if_pos rfl, chain_begin_int m (c + 1) k h, Option.bind_some, if_neg (by omega), goB,
      show wrap64 (((2 * (c + 1) + 1 : Nat) : Int) - 1) = ((2 * c + 2 : Nat) : Int) from by unfold wrap64; omega, if_neg (by omega), if_pos rfl, ih (k + 1) (by omega) (by omega), Option.bind_some, if_neg (by decide)]
    rfl
theorem chain_depth_int (m c k : Nat) (h : c < m) : tree_depth.f (k + 1) (chain m) ((2 * c + 1 : Nat) : Int) = some 1 := by
  rw [tree_depth.f, if_pos (by omega), if_pos (by rw [chain_len]; omega), rd_of (chain_get h).1, show kidsOf (chI c) = [] from rfl, goD, Option.bind_some]
  decide +kernel
theorem chain_depth (m : Nat) (hm : m ≤ 1000000) : ∀ (c k : Nat), c < m → c + 2 ≤ k → tree_depth.f k (chain m) ((2 * c + 2 : Nat) : Int) = some ((c + 2 : Nat) : Int) := by
  intro c
  induction c with
  | zero =>
    intro k h hk
    obtain ⟨k, rfl⟩ : ∃ n, k = n + 2 := ⟨k - 2, by omega⟩
    rw [tree_depth.f, if_pos (by omega), if_pos (by rw [chain_len]; omega), rd_of (chain_get h).2]
    have e : (kidsOf (chA 0)) = [((0 : Nat) : Int), ((2 * 0 + 1 : Nat) : Int)] := by decide
    have d0 : tree_depth.f (k + 1) (chain m) ((0 : Nat) : Int) = some 1 := by
      rw [tree_depth.f, if_pos (by decide), if_pos (by rw [chain_len]; omega), rd_of (chain_zero m), show kidsOf chF = [] from rfl, goD, Option.bind_some]
      decide +kernel
    rw [e, goD, d0, Option.bind_some, goD, chain_depth_int m 0 k h, Option.bind_some, goD, Option.bind_some]
    decide +kernel
  | succ c ih =>
    intro k h hk
    obtain ⟨k, rfl⟩ : ∃ n, k = n + 2 := ⟨k - 2, by omega⟩
    rw [tree_depth.f, if_pos (by omega), if_pos (by rw [chain_len]; omega), rd_of (chain_get h).2]
    have e : (kidsOf (chA (c + 1))) = [((2 * c + 2 : Nat) : Int), ((2 * (c + 1) + 1 : Nat) : Int)] := by
      show [2 * ((c + 1 : Nat) : Int), 2 * ((c + 1 : Nat) : Int) + 1] = _
      congr 1
    rw [e, goD, ih (k + 1) (by omega) (by omega), Option.bind_some, goD, chain_depth_int m (c + 1) k h, Option.bind_some, goD, Option.bind_some]
    congr 1
    unfold mx wrap64
    split <;> omega
theorem chain_may (m : Nat) (hm : m ≤ 1000) : (chain m).all (fun x => mayS x true) = true := by
  have hF : mayS chF true = true := by decide +kernel
  have hA : ∀ i, mayS (chA i) true = true := fun i => by
    simp [mayS, chA, mostN, namesOf, noNames, noKids, kidsN, bareNode, toList_data]
  have hI : ∀ i : Nat, i ≤ 1000 → mayS (chI i) true = true := fun i hi => by
    simp [mayS, chI, mostN, namesOf, noNames, noKids, kidsN, bareNode, noNum, toList_data]
    omega
  induction m with
  | zero => simp [chain, hF]
  | succ m ih =>
    rw [chain, List.all_append, ih (by omega)]
    simp [hA, hI m (by omega)]
theorem chain_shaped (m : Nat) (hm : m ≤ 64) (h1 : 1 ≤ m) : shapedS (chain m) true = true := by
  have hl := chain_len m
  unfold shapedS
  rw [chain_may m (by omega)]
  have hb := chain_begin m (by omega) (m - 1) ((chain m).length + 1) (by omega) (by omega)
  have e : beginS (chain m) (((chain m).length : Int) - 1) = 0 := by
    unfold beginS
    rw [show (((chain m).length : Int) - 1) = ((2 * (m - 1) + 2 : Nat) : Int) from by rw [hl]; omega, hb]
  rw [e]
  simp
  omega
theorem chain_there (m : Nat) (hm : m ≤ 64) (h1 : 1 ≤ m) (a : Nat) (ha : a < 2 * m + 1) : thereS (chain m) (a : Int) = true := by
  unfold thereS
  rw [chain_shaped m hm h1, chain_len]
  simp
  omega
theorem movedKids_zero (x : S45) (h1 : 0 ≤ x.f1 ∧ x.f1 < 4611686018427387904) (h2 : 0 ≤ x.f2 ∧ x.f2 < 4611686018427387904) (h3 : 0 ≤ x.f3 ∧ x.f3 < 4611686018427387904) : movedKids 0 x = x := by
  unfold movedKids moveN
  have e : ∀ y : Int, 0 ≤ y ∧ y < 4611686018427387904 → wrap64 (y - 0) = y := fun y h => by unfold wrap64; omega
  rw [e _ h1, e _ h2, e _ h3]
  simp
theorem chain_moved (m : Nat) (hm : m ≤ 1000) : (chain m).map (movedKids 0) = chain m := by
  induction m with
  | zero => rfl
  | succ m ih =>
    rw [chain, List.map_append, ih (by omega)]
    congr 1
    rw [List.map_cons, List.map_cons, List.map_nil, movedKids_zero (chI m) (by simp [chI]) (by simp [chI]) (by simp [chI]), movedKids_zero (chA m) (by simp [chA]; omega) (by simp [chA]; omega) (by simp [chA])]

theorem chain_loop (c : Int) (m : Nat) (h1 : 1 ≤ m) (hm : m ≤ 64) (hc0 : 0 ≤ c) (hc : c < m) (x1 : Int) (hx : wrap64 (Int.tmod (IntKind.u64.wrap x1) (IntKind.u64.wrap (m : Int))) = c) : ∀ (d i k : Nat), m - i = d → i ≤ m → d + 1400 ≤ k →
    trammellaw3_TreeChain.l0 k x1 (m : Int) (chain i) (i : Int) = some true := by
  intro d
  induction d with
  | zero =>
    intro i k hd hi hk
    obtain ⟨k, rfl⟩ : ∃ n, k = n + 1 := ⟨k - 1, by omega⟩
    have hi : i = m := by omega
    subst hi
    simp only [trammellaw3_TreeChain.l0]
    obtain ⟨cn, rfl⟩ := Int.eq_ofNat_of_zero_le hc0
    have hcn : cn < i := by omega
    rw [if_neg (by omega), if_neg (by rw [Bits.u64_wrap]; omega), hx]
    have w1 : wrap64 (2 * (cn : Int)) = ((2 * cn : Nat) : Int) := by unfold wrap64; omega
    have w2 : wrap64 (((2 * cn : Nat) : Int) + 2) = ((2 * cn + 2 : Nat) : Int) := by unfold wrap64; omega
    have w3 : wrap64 (((2 * cn : Nat) : Int) + 3) = ((2 * cn + 3 : Nat) : Int) := by unfold wrap64; omega
    have w4 : wrap64 (((2 * cn : Nat) : Int) + 1) = ((2 * cn + 1 : Nat) : Int) := by unfold wrap64; omega
    have w5 : wrap64 ((cn : Int) + 2) = ((cn + 2 : Nat) : Int) := by unfold wrap64; omega
    rw [w1, w2, w3, w4, w5]
    have D : tree_Depth.f k (chain i) ((2 * cn + 2 : Nat) : Int) = some (((cn + 2 : Nat) : Int), 0) := by
      unfold tree_Depth.f
      rw [there_is _ _ k (by omega), chain_there i hm h1 _ (by omega), Option.bind_some, if_pos rfl, chain_depth i (by omega) cn k hcn (by omega)]
      rfl
    have P2 : tree_Part.f k (chain i) ((2 * cn + 2 : Nat) : Int) = some (chain (cn + 1), 0) := by
      unfold tree_Part.f
      rw [there_is _ _ k (by omega), chain_there i hm h1 _ (by omega), Option.bind_some, if_pos rfl, chain_begin i (by omega) cn k hcn (by omega), Option.bind_some, if_pos (by rw [chain_len]; omega)]
      rw [show (0 : Int).toNat = 0 from rfl, List.drop_zero, show (((2 * cn + 2 : Nat) : Int) + 1 - 0).toNat = 2 * (cn + 1) + 1 from by omega, chain_take (by omega), chain_moved _ (by omega)]
    have P1 : tree_Part.f k (chain i) ((2 * cn + 1 : Nat) : Int) = some ([chI cn], 0) := by
      unfold tree_Part.f
      obtain ⟨k, rfl⟩ : ∃ n, k = n + 1 := ⟨k - 1, by omega⟩
      rw [there_is _ _ _ (by omega), chain_there i hm h1 _ (by omega), Option.bind_some, if_pos rfl, chain_begin_int i cn k hcn, Option.bind_some, if_pos (by rw [chain_len]; omega)]
      rw [Int.toNat_natCast, show (((2 * cn + 1 : Nat) : Int) + 1 - ((2 * cn + 1 : Nat) : Int)).toNat = 1 from by omega]
      have hd : (chain i).drop (2 * cn + 1) = chI cn :: (chain i).drop (2 * cn + 2) := (hr_dropC (chain_get hcn).1).symm
      rw [hd]
      rfl
    have M : tree_May.f k [] (chain i) = some true := by
      rw [treeMay_is _ _ k (by omega)]
      unfold treeMayS
      rw [chain_shaped i hm h1]
      rfl
    rw [D, P2, P1, M]
    simp only [Option.bind_some, trammellaw0_Num.f, if_true]
    have S1 : trammellaw0_SameNodes.f k (chain (cn + 1)) ((chain i).take (((2 * cn + 3 : Nat) : Int)).toNat) = some true := by
      rw [Int.toNat_natCast, show 2 * cn + 3 = 2 * (cn + 1) + 1 by omega, chain_take (by omega), sameN_is _ _ k (by rw [chain_len]; omega) (by rw [chain_len]; omega), (eqNodes_iff _ _).2 rfl]
    have S2 : trammellaw0_SameNodes.f k [chI cn] [(⟨1, 0, 0, 0, (cn : Int), (⟨#[]⟩ : ByteArray), (⟨#[]⟩ : ByteArray), (⟨#[]⟩ : ByteArray), (⟨#[]⟩ : ByteArray), 0⟩ : S45)] = some true := by
      rw [sameN_is _ _ k (by simp; omega) (by simp)]
      exact congrArg some ((eqNodes_iff _ _).2 rfl)
    rw [if_pos (by omega), if_pos (by rw [chain_len]; omega), S1]
    simp only [Option.bind_some, if_true]
    rw [S2]
    rfl
  | succ d ih =>
    intro i k hd hi hk
    obtain ⟨k, rfl⟩ : ∃ n, k = n + 1 := ⟨k - 1, by omega⟩
    simp only [trammellaw3_TreeChain.l0]
    rw [if_pos (by omega), Option.bind_some]
    have w1 : wrap64 (2 * (i : Int)) = 2 * (i : Int) := by unfold wrap64; omega
    have w2 : wrap64 (2 * (i : Int) + 1) = 2 * (i : Int) + 1 := by unfold wrap64; omega
    rw [w1, w2, if_pos (by rw [chain_len]; simp; omega), wrapS (by omega) (by omega), show ((i : Int) + 1) = ((i + 1 : Nat) : Int) from by omega]
    exact ih (i + 1) k (by omega) (by omega) (by omega)
theorem TreeChain_pure (a0 a1 : Int) : ∃ k, trammellaw3_TreeChain.f k a0 a1 = some true := by
  refine ⟨2000, ?_⟩
  unfold trammellaw3_TreeChain.f
  rw [at_rounds trammellaw3_awake.mono (by decide : 1300 ≤ 2000) trammellaw3_awake.is, Option.bind_some, if_pos rfl, Bits.and63]
  have g0 := Int.emod_nonneg a0 (b := 64) (by decide)
  have g1 := Int.emod_lt_of_pos a0 (b := 64) (by decide)
  generalize a0 % 64 = q at *
  obtain ⟨qn, rfl⟩ := Int.eq_ofNat_of_zero_le g0
  have e : wrap64 (1 + (qn : Int)) = ((qn + 1 : Nat) : Int) := by unfold wrap64; omega
  rw [e]
  have hu : IntKind.u64.wrap ((qn + 1 : Nat) : Int) = ((qn + 1 : Nat) : Int) := by rw [Bits.u64_wrap]; omega
  have hmod : wrap64 (Int.tmod (IntKind.u64.wrap a1) (IntKind.u64.wrap ((qn + 1 : Nat) : Int))) = (a1 % 18446744073709551616) % ((qn + 1 : Nat) : Int) := by
    rw [hu]
    exact Bits.u64_mod a1 _ (by omega) (by omega)
  have c0 := Int.emod_nonneg (a1 % 18446744073709551616) (b := ((qn + 1 : Nat) : Int)) (by omega)
  have c1 := Int.emod_lt_of_pos (a1 % 18446744073709551616) (b := ((qn + 1 : Nat) : Int)) (by omega)
  exact chain_loop _ (qn + 1) (by omega) (by omega) c0 c1 a1 hmod (qn + 1) 0 2000 (by omega) (Nat.zero_le _) (by omega)
end Go.Proofs.YtnogfhhfklkbiaaDoor.H
