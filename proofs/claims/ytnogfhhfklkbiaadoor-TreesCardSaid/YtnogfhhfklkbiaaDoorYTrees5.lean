/- Several texts in one: contracts of functions of the program, and what they lean on. In part written by a program of this session over the kit's print, in part by hand. -/
import Derived.Test.YtnogfhhfklkbiaaDoorYTrees4
import Derived.Test.YtnogfhhfklkbiaaDoorYTrees2
import Derived.Test.YtnogfhhfklkbiaaDoorYTrees3
namespace Go.Proofs.YtnogfhhfklkbiaaDoor.H
open Go.RowKit Go.Proofs.YtnogfhhfklkbiaaDoorW.PrintWords Go.Proofs.YtnogfhhfklkbiaaDoorW.PrintLast Go.Proofs.YtnogfhhfklkbiaaDoorW.PrintMore
attribute [local go_sem] max2_int min2_int max_two min_two max_three min_three max_four min_four
set_option linter.unusedVariables false
set_option linter.unusedSimpArgs false
attribute [local go_sem high] eqA45
set_option maxRecDepth 100000 in
set_option maxHeartbeats 8000000 in
theorem fields_6_true (k : Nat) (a0_0 a0_1 a0_2 a0_3 a0_4 : Int) (a0_5 a0_6 a0_7 a0_8 : ByteArray) (a0_9 : Int) (r : Bool) (w : World) (hk : a0_0 = 6) (h : trammelref1_fields.f k a0_0 a0_1 a0_2 a0_3 a0_4 a0_5 a0_6 a0_7 a0_8 a0_9 true = some r) :
    Calls Tryd.prog 74 #[.agg #[.int .i64 a0_0, .int .i64 a0_1, .int .i64 a0_2, .int .i64 a0_3, .int .i64 a0_4, .string a0_5, .string a0_6, .string a0_7, .string a0_8, .int .i64 a0_9], .bool true] w fun e w' => e = .returned (.bool r) ∧ Below w.heap.size w w' := by
  have hu45 := Tryd.underlying45
  subst hk
  have hy : refY ⟨6, a0_1, a0_2, a0_3, a0_4, a0_5, a0_6, a0_7, a0_8, a0_9⟩ true = (⟨6, a0_1, a0_2, 0, 0, (⟨#[]⟩ : ByteArray), (⟨#[]⟩ : ByteArray), (⟨#[]⟩ : ByteArray), (⟨#[]⟩ : ByteArray), a0_9⟩ : S45) := by rfl
  unfold trammelref1_fields.f at h
  dsimp only at h
  rw [hy] at h
  replace h := Option.bind_eq_some_iff.mp h
  obtain ⟨c, hc, h⟩ := h
  have hc3 := refKids_is hc
  replace hc3 : c = 2 := hc3.trans (by decide)
  subst hc3
  have HK := Aside0.mk hc
  clear hc hy
  replace h := Option.bind_eq_some_iff.mp h
  obtain ⟨⟨ok, z0, z1, z2, z3, z4, z5, z6, z7, z8, z9⟩, hz, h⟩ := h
  rw [if_pos rfl] at hz
  have HZ := Aside0.mk (show trammelref1_bound.f k 6 a0_1 a0_2 a0_3 a0_4 a0_5 a0_6 a0_7 a0_8 a0_9 6 a0_1 a0_2 0 0 (⟨#[]⟩ : ByteArray) (⟨#[]⟩ : ByteArray) (⟨#[]⟩ : ByteArray) (⟨#[]⟩ : ByteArray) a0_9 = some (ok, z0, z1, z2, z3, z4, z5, z6, z7, z8, z9) from hz)
  clear hz
  dsimp only at h
  cases ok
  case false =>
    rw [if_neg (by decide)] at h
    obtain rfl := Option.some.inj h
    clear h
    go_enter Tryd.func74, Tryd.ntmps74
    go_wp2_with (first | (go_at_call 63; (with_reducible refine (trammelref1_kids.calls k _ _ _ HK.out).mono ?_); rintro e w' ⟨rfl, ⟨nd, rfl⟩⟩) | (go_at_call 95; refine (trammelref1_bound.calls k 6 a0_1 a0_2 a0_3 a0_4 a0_5 a0_6 a0_7 a0_8 a0_9 (w.heap.size + 1) 6 a0_1 a0_2 0 0 (⟨#[]⟩ : ByteArray) (⟨#[]⟩ : ByteArray) (⟨#[]⟩ : ByteArray) (⟨#[]⟩ : ByteArray) a0_9 false z0 z1 z2 z3 z4 z5 z6 z7 z8 z9 w _ ⟨(blk_put (cs' := #[.int .i64 6, .int .i64 a0_1, .int .i64 a0_2, .int .i64 0, .int .i64 0, .string (⟨#[]⟩ : ByteArray), .string (⟨#[]⟩ : ByteArray), .string (⟨#[]⟩ : ByteArray), .string (⟨#[]⟩ : ByteArray), .int .i64 a0_9]) (blk_put (cs' := #[.int .i64 6, .int .i64 a0_1, .int .i64 0, .int .i64 0, .int .i64 0, .string (⟨#[]⟩ : ByteArray), .string (⟨#[]⟩ : ByteArray), .string (⟨#[]⟩ : ByteArray), .string (⟨#[]⟩ : ByteArray), .int .i64 a0_9]) (show (((w.alloc (.cells #[.int .i64 6, .int .i64 a0_1, .int .i64 a0_2, .int .i64 a0_3, .int .i64 a0_4, .string a0_5, .string a0_6, .string a0_7, .string a0_8, .int .i64 a0_9] 45)).alloc (.cells #[.int .i64 6, .int .i64 0, .int .i64 0, .int .i64 0, .int .i64 0, .string (⟨#[]⟩ : ByteArray), .string (⟨#[]⟩ : ByteArray), .string (⟨#[]⟩ : ByteArray), .string (⟨#[]⟩ : ByteArray), .int .i64 a0_9] 45)).drewN nd).heap[w.heap.size + 1]? = some (.cells #[.int .i64 6, .int .i64 0, .int .i64 0, .int .i64 0, .int .i64 0, .string (⟨#[]⟩ : ByteArray), .string (⟨#[]⟩ : ByteArray), .string (⟨#[]⟩ : ByteArray), .string (⟨#[]⟩ : ByteArray), .int .i64 a0_9] 45 (0, 0)) from blk_drewN (by have h_ := blk_new (w.alloc (.cells #[.int .i64 6, .int .i64 a0_1, .int .i64 a0_2, .int .i64 a0_3, .int .i64 a0_4, .string a0_5, .string a0_6, .string a0_7, .string a0_8, .int .i64 a0_9] 45)) (.cells #[.int .i64 6, .int .i64 0, .int .i64 0, .int .i64 0, .int .i64 0, .string (⟨#[]⟩ : ByteArray), .string (⟨#[]⟩ : ByteArray), .string (⟨#[]⟩ : ByteArray), .string (⟨#[]⟩ : ByteArray), .int .i64 a0_9] 45); rwa [show (w.alloc (.cells #[.int .i64 6, .int .i64 a0_1, .int .i64 a0_2, .int .i64 a0_3, .int .i64 a0_4, .string a0_5, .string a0_6, .string a0_7, .string a0_8, .int .i64 a0_9] 45)).heap.size = w.heap.size + 1 from by simp] at h_) nd) 1 (.int .i64 a0_1) rfl) 2 (.int .i64 a0_2) rfl), Nat.le_succ _⟩ (by repeat (first | exact Below.refl _ _ | apply pw_below_drewN | refine below_set ?_ (Nat.le_succ _) | refine Below.alloc ?_ (by first | exact Nat.le_refl _ | simp) _)) HZ.out).mono ?_; rintro e w2 ⟨rfl, hI2, hB2, hK2⟩; have hx2 := blk_keep hK2 (blk_far (p := ⟨w.heap.size + 1, 2, none⟩) (blk_far (p := ⟨w.heap.size + 1, 1, none⟩) (show (((w.alloc (.cells #[.int .i64 6, .int .i64 a0_1, .int .i64 a0_2, .int .i64 a0_3, .int .i64 a0_4, .string a0_5, .string a0_6, .string a0_7, .string a0_8, .int .i64 a0_9] 45)).alloc (.cells #[.int .i64 6, .int .i64 0, .int .i64 0, .int .i64 0, .int .i64 0, .string (⟨#[]⟩ : ByteArray), .string (⟨#[]⟩ : ByteArray), .string (⟨#[]⟩ : ByteArray), .string (⟨#[]⟩ : ByteArray), .int .i64 a0_9] 45)).drewN nd).heap[w.heap.size]? = some (.cells #[.int .i64 6, .int .i64 a0_1, .int .i64 a0_2, .int .i64 a0_3, .int .i64 a0_4, .string a0_5, .string a0_6, .string a0_7, .string a0_8, .int .i64 a0_9] 45 (0, 0)) from blk_drewN (blk_alloc (blk_new w _) _) nd) (Nat.ne_of_lt (Nat.lt_succ_self _)) (.int .i64 a0_1)) (Nat.ne_of_lt (Nat.lt_succ_self _)) (.int .i64 a0_2)) (Nat.ne_of_lt (Nat.lt_succ_self _)); have hy2 := hI2.1; have hx2_0 : w2.cell? ⟨w.heap.size, 0, none⟩ = some (.int .i64 6) := (blk_cell hx2 0).trans rfl; have hy2_0 : w2.cell? ⟨w.heap.size + 1, 0, none⟩ = some (.int .i64 z0) := (blk_cell hy2 0).trans rfl; have hx2_1 : w2.cell? ⟨w.heap.size, 1, none⟩ = some (.int .i64 a0_1) := (blk_cell hx2 1).trans rfl; have hy2_1 : w2.cell? ⟨w.heap.size + 1, 1, none⟩ = some (.int .i64 z1) := (blk_cell hy2 1).trans rfl; have hx2_2 : w2.cell? ⟨w.heap.size, 2, none⟩ = some (.int .i64 a0_2) := (blk_cell hx2 2).trans rfl; have hy2_2 : w2.cell? ⟨w.heap.size + 1, 2, none⟩ = some (.int .i64 z2) := (blk_cell hy2 2).trans rfl; have hx2_3 : w2.cell? ⟨w.heap.size, 3, none⟩ = some (.int .i64 a0_3) := (blk_cell hx2 3).trans rfl; have hy2_3 : w2.cell? ⟨w.heap.size + 1, 3, none⟩ = some (.int .i64 z3) := (blk_cell hy2 3).trans rfl; have hx2_4 : w2.cell? ⟨w.heap.size, 4, none⟩ = some (.int .i64 a0_4) := (blk_cell hx2 4).trans rfl; have hy2_4 : w2.cell? ⟨w.heap.size + 1, 4, none⟩ = some (.int .i64 z4) := (blk_cell hy2 4).trans rfl; have hx2_5 : w2.cell? ⟨w.heap.size, 5, none⟩ = some (.string a0_5) := (blk_cell hx2 5).trans rfl; have hy2_5 : w2.cell? ⟨w.heap.size + 1, 5, none⟩ = some (.string z5) := (blk_cell hy2 5).trans rfl; have hx2_6 : w2.cell? ⟨w.heap.size, 6, none⟩ = some (.string a0_6) := (blk_cell hx2 6).trans rfl; have hy2_6 : w2.cell? ⟨w.heap.size + 1, 6, none⟩ = some (.string z6) := (blk_cell hy2 6).trans rfl; have hx2_7 : w2.cell? ⟨w.heap.size, 7, none⟩ = some (.string a0_7) := (blk_cell hx2 7).trans rfl; have hy2_7 : w2.cell? ⟨w.heap.size + 1, 7, none⟩ = some (.string z7) := (blk_cell hy2 7).trans rfl; have hx2_8 : w2.cell? ⟨w.heap.size, 8, none⟩ = some (.string a0_8) := (blk_cell hx2 8).trans rfl; have hy2_8 : w2.cell? ⟨w.heap.size + 1, 8, none⟩ = some (.string z8) := (blk_cell hy2 8).trans rfl; have hx2_9 : w2.cell? ⟨w.heap.size, 9, none⟩ = some (.int .i64 a0_9) := (blk_cell hx2 9).trans rfl; have hy2_9 : w2.cell? ⟨w.heap.size + 1, 9, none⟩ = some (.int .i64 z9) := (blk_cell hy2 9).trans rfl; have HB2 := Aside0.mk hB2; clear hx2 hy2 hI2 hB2 hK2))
    all_goals
      go_ret
      clear HK hu45
      refine ⟨?_, by repeat (first | exact HB2.out | exact Below.refl _ _ | apply pw_below_drewN | refine below_set ?_ (Nat.le_succ _) | refine Below.alloc ?_ (by first | exact Nat.le_refl _ | simp) _)⟩
      first
        | rfl
        | (simp [refEq, *]; done)
        | (simp [refEq, *]; omega)
        | (simp [refEq, *]; intros; omega)
        | (simp_all [refEq]; done)
  case true =>
    rw [if_pos rfl] at h
    obtain rfl := Option.some.inj h
    clear h
    go_enter Tryd.func74, Tryd.ntmps74
    go_wp2_with (first | (go_at_call 63; (with_reducible refine (trammelref1_kids.calls k _ _ _ HK.out).mono ?_); rintro e w' ⟨rfl, ⟨nd, rfl⟩⟩) | (go_at_call 95; refine (trammelref1_bound.calls k 6 a0_1 a0_2 a0_3 a0_4 a0_5 a0_6 a0_7 a0_8 a0_9 (w.heap.size + 1) 6 a0_1 a0_2 0 0 (⟨#[]⟩ : ByteArray) (⟨#[]⟩ : ByteArray) (⟨#[]⟩ : ByteArray) (⟨#[]⟩ : ByteArray) a0_9 true z0 z1 z2 z3 z4 z5 z6 z7 z8 z9 w _ ⟨(blk_put (cs' := #[.int .i64 6, .int .i64 a0_1, .int .i64 a0_2, .int .i64 0, .int .i64 0, .string (⟨#[]⟩ : ByteArray), .string (⟨#[]⟩ : ByteArray), .string (⟨#[]⟩ : ByteArray), .string (⟨#[]⟩ : ByteArray), .int .i64 a0_9]) (blk_put (cs' := #[.int .i64 6, .int .i64 a0_1, .int .i64 0, .int .i64 0, .int .i64 0, .string (⟨#[]⟩ : ByteArray), .string (⟨#[]⟩ : ByteArray), .string (⟨#[]⟩ : ByteArray), .string (⟨#[]⟩ : ByteArray), .int .i64 a0_9]) (show (((w.alloc (.cells #[.int .i64 6, .int .i64 a0_1, .int .i64 a0_2, .int .i64 a0_3, .int .i64 a0_4, .string a0_5, .string a0_6, .string a0_7, .string a0_8, .int .i64 a0_9] 45)).alloc (.cells #[.int .i64 6, .int .i64 0, .int .i64 0, .int .i64 0, .int .i64 0, .string (⟨#[]⟩ : ByteArray), .string (⟨#[]⟩ : ByteArray), .string (⟨#[]⟩ : ByteArray), .string (⟨#[]⟩ : ByteArray), .int .i64 a0_9] 45)).drewN nd).heap[w.heap.size + 1]? = some (.cells #[.int .i64 6, .int .i64 0, .int .i64 0, .int .i64 0, .int .i64 0, .string (⟨#[]⟩ : ByteArray), .string (⟨#[]⟩ : ByteArray), .string (⟨#[]⟩ : ByteArray), .string (⟨#[]⟩ : ByteArray), .int .i64 a0_9] 45 (0, 0)) from blk_drewN (by have h_ := blk_new (w.alloc (.cells #[.int .i64 6, .int .i64 a0_1, .int .i64 a0_2, .int .i64 a0_3, .int .i64 a0_4, .string a0_5, .string a0_6, .string a0_7, .string a0_8, .int .i64 a0_9] 45)) (.cells #[.int .i64 6, .int .i64 0, .int .i64 0, .int .i64 0, .int .i64 0, .string (⟨#[]⟩ : ByteArray), .string (⟨#[]⟩ : ByteArray), .string (⟨#[]⟩ : ByteArray), .string (⟨#[]⟩ : ByteArray), .int .i64 a0_9] 45); rwa [show (w.alloc (.cells #[.int .i64 6, .int .i64 a0_1, .int .i64 a0_2, .int .i64 a0_3, .int .i64 a0_4, .string a0_5, .string a0_6, .string a0_7, .string a0_8, .int .i64 a0_9] 45)).heap.size = w.heap.size + 1 from by simp] at h_) nd) 1 (.int .i64 a0_1) rfl) 2 (.int .i64 a0_2) rfl), Nat.le_succ _⟩ (by repeat (first | exact Below.refl _ _ | apply pw_below_drewN | refine below_set ?_ (Nat.le_succ _) | refine Below.alloc ?_ (by first | exact Nat.le_refl _ | simp) _)) HZ.out).mono ?_; rintro e w2 ⟨rfl, hI2, hB2, hK2⟩; have hx2 := blk_keep hK2 (blk_far (p := ⟨w.heap.size + 1, 2, none⟩) (blk_far (p := ⟨w.heap.size + 1, 1, none⟩) (show (((w.alloc (.cells #[.int .i64 6, .int .i64 a0_1, .int .i64 a0_2, .int .i64 a0_3, .int .i64 a0_4, .string a0_5, .string a0_6, .string a0_7, .string a0_8, .int .i64 a0_9] 45)).alloc (.cells #[.int .i64 6, .int .i64 0, .int .i64 0, .int .i64 0, .int .i64 0, .string (⟨#[]⟩ : ByteArray), .string (⟨#[]⟩ : ByteArray), .string (⟨#[]⟩ : ByteArray), .string (⟨#[]⟩ : ByteArray), .int .i64 a0_9] 45)).drewN nd).heap[w.heap.size]? = some (.cells #[.int .i64 6, .int .i64 a0_1, .int .i64 a0_2, .int .i64 a0_3, .int .i64 a0_4, .string a0_5, .string a0_6, .string a0_7, .string a0_8, .int .i64 a0_9] 45 (0, 0)) from blk_drewN (blk_alloc (blk_new w _) _) nd) (Nat.ne_of_lt (Nat.lt_succ_self _)) (.int .i64 a0_1)) (Nat.ne_of_lt (Nat.lt_succ_self _)) (.int .i64 a0_2)) (Nat.ne_of_lt (Nat.lt_succ_self _)); have hy2 := hI2.1; have hx2_0 : w2.cell? ⟨w.heap.size, 0, none⟩ = some (.int .i64 6) := (blk_cell hx2 0).trans rfl; have hy2_0 : w2.cell? ⟨w.heap.size + 1, 0, none⟩ = some (.int .i64 z0) := (blk_cell hy2 0).trans rfl; have hx2_1 : w2.cell? ⟨w.heap.size, 1, none⟩ = some (.int .i64 a0_1) := (blk_cell hx2 1).trans rfl; have hy2_1 : w2.cell? ⟨w.heap.size + 1, 1, none⟩ = some (.int .i64 z1) := (blk_cell hy2 1).trans rfl; have hx2_2 : w2.cell? ⟨w.heap.size, 2, none⟩ = some (.int .i64 a0_2) := (blk_cell hx2 2).trans rfl; have hy2_2 : w2.cell? ⟨w.heap.size + 1, 2, none⟩ = some (.int .i64 z2) := (blk_cell hy2 2).trans rfl; have hx2_3 : w2.cell? ⟨w.heap.size, 3, none⟩ = some (.int .i64 a0_3) := (blk_cell hx2 3).trans rfl; have hy2_3 : w2.cell? ⟨w.heap.size + 1, 3, none⟩ = some (.int .i64 z3) := (blk_cell hy2 3).trans rfl; have hx2_4 : w2.cell? ⟨w.heap.size, 4, none⟩ = some (.int .i64 a0_4) := (blk_cell hx2 4).trans rfl; have hy2_4 : w2.cell? ⟨w.heap.size + 1, 4, none⟩ = some (.int .i64 z4) := (blk_cell hy2 4).trans rfl; have hx2_5 : w2.cell? ⟨w.heap.size, 5, none⟩ = some (.string a0_5) := (blk_cell hx2 5).trans rfl; have hy2_5 : w2.cell? ⟨w.heap.size + 1, 5, none⟩ = some (.string z5) := (blk_cell hy2 5).trans rfl; have hx2_6 : w2.cell? ⟨w.heap.size, 6, none⟩ = some (.string a0_6) := (blk_cell hx2 6).trans rfl; have hy2_6 : w2.cell? ⟨w.heap.size + 1, 6, none⟩ = some (.string z6) := (blk_cell hy2 6).trans rfl; have hx2_7 : w2.cell? ⟨w.heap.size, 7, none⟩ = some (.string a0_7) := (blk_cell hx2 7).trans rfl; have hy2_7 : w2.cell? ⟨w.heap.size + 1, 7, none⟩ = some (.string z7) := (blk_cell hy2 7).trans rfl; have hx2_8 : w2.cell? ⟨w.heap.size, 8, none⟩ = some (.string a0_8) := (blk_cell hx2 8).trans rfl; have hy2_8 : w2.cell? ⟨w.heap.size + 1, 8, none⟩ = some (.string z8) := (blk_cell hy2 8).trans rfl; have hx2_9 : w2.cell? ⟨w.heap.size, 9, none⟩ = some (.int .i64 a0_9) := (blk_cell hx2 9).trans rfl; have hy2_9 : w2.cell? ⟨w.heap.size + 1, 9, none⟩ = some (.int .i64 z9) := (blk_cell hy2 9).trans rfl; have HB2 := Aside0.mk hB2; clear hx2 hy2 hI2 hB2 hK2))
    all_goals
      go_ret
      clear HK hu45
      refine ⟨?_, by repeat (first | exact HB2.out | exact Below.refl _ _ | apply pw_below_drewN | refine below_set ?_ (Nat.le_succ _) | refine Below.alloc ?_ (by first | exact Nat.le_refl _ | simp) _)⟩
      first
        | rfl
        | (simp [refEq, *]; done)
        | (simp [refEq, *]; omega)
        | (simp [refEq, *]; intros; omega)
        | (simp_all [refEq]; done)
set_option maxRecDepth 100000 in
set_option maxHeartbeats 8000000 in
theorem fields_7_false (k : Nat) (a0_0 a0_1 a0_2 a0_3 a0_4 : Int) (a0_5 a0_6 a0_7 a0_8 : ByteArray) (a0_9 : Int) (r : Bool) (w : World) (hk : a0_0 = 7) (h : trammelref1_fields.f k a0_0 a0_1 a0_2 a0_3 a0_4 a0_5 a0_6 a0_7 a0_8 a0_9 false = some r) :
    Calls Tryd.prog 74 #[.agg #[.int .i64 a0_0, .int .i64 a0_1, .int .i64 a0_2, .int .i64 a0_3, .int .i64 a0_4, .string a0_5, .string a0_6, .string a0_7, .string a0_8, .int .i64 a0_9], .bool false] w fun e w' => e = .returned (.bool r) ∧ Below w.heap.size w w' := by
  have hu45 := Tryd.underlying45
  subst hk
  have hy : refY ⟨7, a0_1, a0_2, a0_3, a0_4, a0_5, a0_6, a0_7, a0_8, a0_9⟩ false = (⟨7, a0_1, a0_2, a0_3, 0, (⟨#[]⟩ : ByteArray), (⟨#[]⟩ : ByteArray), (⟨#[]⟩ : ByteArray), (⟨#[]⟩ : ByteArray), a0_9⟩ : S45) := by rfl
  unfold trammelref1_fields.f at h
  dsimp only at h
  rw [hy] at h
  replace h := Option.bind_eq_some_iff.mp h
  obtain ⟨c, hc, h⟩ := h
  have hc3 := refKids_is hc
  replace hc3 : c = 3 := hc3.trans (by decide)
  subst hc3
  have HK := Aside0.mk hc
  clear hc hy
  rw [if_neg (by decide), Option.bind_some, if_pos rfl] at h
  dsimp only at h
  obtain rfl := Option.some.inj h
  clear h
  go_enter Tryd.func74, Tryd.ntmps74
  go_wp2_with (go_at_call 63; (with_reducible refine (trammelref1_kids.calls k _ _ _ HK.out).mono ?_); rintro e w' ⟨rfl, ⟨nd, rfl⟩⟩)
  all_goals
    go_ret
    clear HK hu45
    refine ⟨?_, by repeat (first | exact Below.refl _ _ | apply pw_below_drewN | refine below_set ?_ (Nat.le_succ _) | refine Below.alloc ?_ (by first | exact Nat.le_refl _ | simp) _)⟩
    first
      | rfl
      | (simp [refEq, *]; done)
      | (simp [refEq, *]; omega)
      | (simp [refEq, *]; intros; omega)
      | (simp_all [refEq]; done)
set_option maxRecDepth 100000 in
set_option maxHeartbeats 8000000 in
theorem fields_7_true (k : Nat) (a0_0 a0_1 a0_2 a0_3 a0_4 : Int) (a0_5 a0_6 a0_7 a0_8 : ByteArray) (a0_9 : Int) (r : Bool) (w : World) (hk : a0_0 = 7) (h : trammelref1_fields.f k a0_0 a0_1 a0_2 a0_3 a0_4 a0_5 a0_6 a0_7 a0_8 a0_9 true = some r) :
    Calls Tryd.prog 74 #[.agg #[.int .i64 a0_0, .int .i64 a0_1, .int .i64 a0_2, .int .i64 a0_3, .int .i64 a0_4, .string a0_5, .string a0_6, .string a0_7, .string a0_8, .int .i64 a0_9], .bool true] w fun e w' => e = .returned (.bool r) ∧ Below w.heap.size w w' := by
  have hu45 := Tryd.underlying45
  subst hk
  have hy : refY ⟨7, a0_1, a0_2, a0_3, a0_4, a0_5, a0_6, a0_7, a0_8, a0_9⟩ true = (⟨7, a0_1, a0_2, a0_3, 0, (⟨#[]⟩ : ByteArray), (⟨#[]⟩ : ByteArray), (⟨#[]⟩ : ByteArray), (⟨#[]⟩ : ByteArray), a0_9⟩ : S45) := by rfl
  unfold trammelref1_fields.f at h
  dsimp only at h
  rw [hy] at h
  replace h := Option.bind_eq_some_iff.mp h
  obtain ⟨c, hc, h⟩ := h
  have hc3 := refKids_is hc
  replace hc3 : c = 3 := hc3.trans (by decide)
  subst hc3
  have HK := Aside0.mk hc
  clear hc hy
  replace h := Option.bind_eq_some_iff.mp h
  obtain ⟨⟨ok, z0, z1, z2, z3, z4, z5, z6, z7, z8, z9⟩, hz, h⟩ := h
  rw [if_pos rfl] at hz
  have HZ := Aside0.mk (show trammelref1_bound.f k 7 a0_1 a0_2 a0_3 a0_4 a0_5 a0_6 a0_7 a0_8 a0_9 7 a0_1 a0_2 a0_3 0 (⟨#[]⟩ : ByteArray) (⟨#[]⟩ : ByteArray) (⟨#[]⟩ : ByteArray) (⟨#[]⟩ : ByteArray) a0_9 = some (ok, z0, z1, z2, z3, z4, z5, z6, z7, z8, z9) from hz)
  clear hz
  dsimp only at h
  cases ok
  case false =>
    rw [if_neg (by decide)] at h
    obtain rfl := Option.some.inj h
    clear h
    go_enter Tryd.func74, Tryd.ntmps74
    go_wp2_with (first | (go_at_call 63; (with_reducible refine (trammelref1_kids.calls k _ _ _ HK.out).mono ?_); rintro e w' ⟨rfl, ⟨nd, rfl⟩⟩) | (go_at_call 95; refine (trammelref1_bound.calls k 7 a0_1 a0_2 a0_3 a0_4 a0_5 a0_6 a0_7 a0_8 a0_9 (w.heap.size + 1) 7 a0_1 a0_2 a0_3 0 (⟨#[]⟩ : ByteArray) (⟨#[]⟩ : ByteArray) (⟨#[]⟩ : ByteArray) (⟨#[]⟩ : ByteArray) a0_9 false z0 z1 z2 z3 z4 z5 z6 z7 z8 z9 w _ ⟨(blk_put (cs' := #[.int .i64 7, .int .i64 a0_1, .int .i64 a0_2, .int .i64 a0_3, .int .i64 0, .string (⟨#[]⟩ : ByteArray), .string (⟨#[]⟩ : ByteArray), .string (⟨#[]⟩ : ByteArray), .string (⟨#[]⟩ : ByteArray), .int .i64 a0_9]) (blk_put (cs' := #[.int .i64 7, .int .i64 a0_1, .int .i64 a0_2, .int .i64 0, .int .i64 0, .string (⟨#[]⟩ : ByteArray), .string (⟨#[]⟩ : ByteArray), .string (⟨#[]⟩ : ByteArray), .string (⟨#[]⟩ : ByteArray), .int .i64 a0_9]) (blk_put (cs' := #[.int .i64 7, .int .i64 a0_1, .int .i64 0, .int .i64 0, .int .i64 0, .string (⟨#[]⟩ : ByteArray), .string (⟨#[]⟩ : ByteArray), .string (⟨#[]⟩ : ByteArray), .string (⟨#[]⟩ : ByteArray), .int .i64 a0_9]) (show (((w.alloc (.cells #[.int .i64 7, .int .i64 a0_1, .int .i64 a0_2, .int .i64 a0_3, .int .i64 a0_4, .string a0_5, .string a0_6, .string a0_7, .string a0_8, .int .i64 a0_9] 45)).alloc (.cells #[.int .i64 7, .int .i64 0, .int .i64 0, .int .i64 0, .int .i64 0, .string (⟨#[]⟩ : ByteArray), .string (⟨#[]⟩ : ByteArray), .string (⟨#[]⟩ : ByteArray), .string (⟨#[]⟩ : ByteArray), .int .i64 a0_9] 45)).drewN nd).heap[w.heap.size + 1]? = some (.cells #[.int .i64 7, .int .i64 0, .int .i64 0, .int .i64 0, .int .i64 0, .string (⟨#[]⟩ : ByteArray), .string (⟨#[]⟩ : ByteArray), .string (⟨#[]⟩ : ByteArray), .string (⟨#[]⟩ : ByteArray), .int .i64 a0_9] 45 (0, 0)) from blk_drewN (by have h_ := blk_new (w.alloc (.cells #[.int .i64 7, .int .i64 a0_1, .int .i64 a0_2, .int .i64 a0_3, .int .i64 a0_4, .string a0_5, .string a0_6, .string a0_7, .string a0_8, .int .i64 a0_9] 45)) (.cells #[.int .i64 7, .int .i64 0, .int .i64 0, .int .i64 0, .int .i64 0, .string (⟨#[]⟩ : ByteArray), .string (⟨#[]⟩ : ByteArray), .string (⟨#[]⟩ : ByteArray), .string (⟨#[]⟩ : ByteArray), .int .i64 a0_9] 45); rwa [show (w.alloc (.cells #[.int .i64 7, .int .i64 a0_1, .int .i64 a0_2, .int .i64 a0_3, .int .i64 a0_4, .string a0_5, .string a0_6, .string a0_7, .string a0_8, .int .i64 a0_9] 45)).heap.size = w.heap.size + 1 from by simp] at h_) nd) 1 (.int .i64 a0_1) rfl) 2 (.int .i64 a0_2) rfl) 3 (.int .i64 a0_3) rfl), Nat.le_succ _⟩ (by repeat (first | exact Below.refl _ _ | apply pw_below_drewN | refine below_set ?_ (Nat.le_succ _) | refine Below.alloc ?_ (by first | exact Nat.le_refl _ | simp) _)) HZ.out).mono ?_; rintro e w2 ⟨rfl, hI2, hB2, hK2⟩; have hx2 := blk_keep hK2 (blk_far (p := ⟨w.heap.size + 1, 3, none⟩) (blk_far (p := ⟨w.heap.size + 1, 2, none⟩) (blk_far (p := ⟨w.heap.size + 1, 1, none⟩) (show (((w.alloc (.cells #[.int .i64 7, .int .i64 a0_1, .int .i64 a0_2, .int .i64 a0_3, .int .i64 a0_4, .string a0_5, .string a0_6, .string a0_7, .string a0_8, .int .i64 a0_9] 45)).alloc (.cells #[.int .i64 7, .int .i64 0, .int .i64 0, .int .i64 0, .int .i64 0, .string (⟨#[]⟩ : ByteArray), .string (⟨#[]⟩ : ByteArray), .string (⟨#[]⟩ : ByteArray), .string (⟨#[]⟩ : ByteArray), .int .i64 a0_9] 45)).drewN nd).heap[w.heap.size]? = some (.cells #[.int .i64 7, .int .i64 a0_1, .int .i64 a0_2, .int .i64 a0_3, .int .i64 a0_4, .string a0_5, .string a0_6, .string a0_7, .string a0_8, .int .i64 a0_9] 45 (0, 0)) from blk_drewN (blk_alloc (blk_new w _) _) nd) (Nat.ne_of_lt (Nat.lt_succ_self _)) (.int .i64 a0_1)) (Nat.ne_of_lt (Nat.lt_succ_self _)) (.int .i64 a0_2)) (Nat.ne_of_lt (Nat.lt_succ_self _)) (.int .i64 a0_3)) (Nat.ne_of_lt (Nat.lt_succ_self _)); have hy2 := hI2.1; have hx2_0 : w2.cell? ⟨w.heap.size, 0, none⟩ = some (.int .i64 7) := (blk_cell hx2 0).trans rfl; have hy2_0 : w2.cell? ⟨w.heap.size + 1, 0, none⟩ = some (.int .i64 z0) := (blk_cell hy2 0).trans rfl; have hx2_1 : w2.cell? ⟨w.heap.size, 1, none⟩ = some (.int .i64 a0_1) := (blk_cell hx2 1).trans rfl; have hy2_1 : w2.cell? ⟨w.heap.size + 1, 1, none⟩ = some (.int .i64 z1) := (blk_cell hy2 1).trans rfl; have hx2_2 : w2.cell? ⟨w.heap.size, 2, none⟩ = some (.int .i64 a0_2) := (blk_cell hx2 2).trans rfl; have hy2_2 : w2.cell? ⟨w.heap.size + 1, 2, none⟩ = some (.int .i64 z2) := (blk_cell hy2 2).trans rfl; have hx2_3 : w2.cell? ⟨w.heap.size, 3, none⟩ = some (.int .i64 a0_3) := (blk_cell hx2 3).trans rfl; have hy2_3 : w2.cell? ⟨w.heap.size + 1, 3, none⟩ = some (.int .i64 z3) := (blk_cell hy2 3).trans rfl; have hx2_4 : w2.cell? ⟨w.heap.size, 4, none⟩ = some (.int .i64 a0_4) := (blk_cell hx2 4).trans rfl; have hy2_4 : w2.cell? ⟨w.heap.size + 1, 4, none⟩ = some (.int .i64 z4) := (blk_cell hy2 4).trans rfl; have hx2_5 : w2.cell? ⟨w.heap.size, 5, none⟩ = some (.string a0_5) := (blk_cell hx2 5).trans rfl; have hy2_5 : w2.cell? ⟨w.heap.size + 1, 5, none⟩ = some (.string z5) := (blk_cell hy2 5).trans rfl; have hx2_6 : w2.cell? ⟨w.heap.size, 6, none⟩ = some (.string a0_6) := (blk_cell hx2 6).trans rfl; have hy2_6 : w2.cell? ⟨w.heap.size + 1, 6, none⟩ = some (.string z6) := (blk_cell hy2 6).trans rfl; have hx2_7 : w2.cell? ⟨w.heap.size, 7, none⟩ = some (.string a0_7) := (blk_cell hx2 7).trans rfl; have hy2_7 : w2.cell? ⟨w.heap.size + 1, 7, none⟩ = some (.string z7) := (blk_cell hy2 7).trans rfl; have hx2_8 : w2.cell? ⟨w.heap.size, 8, none⟩ = some (.string a0_8) := (blk_cell hx2 8).trans rfl; have hy2_8 : w2.cell? ⟨w.heap.size + 1, 8, none⟩ = some (.string z8) := (blk_cell hy2 8).trans rfl; have hx2_9 : w2.cell? ⟨w.heap.size, 9, none⟩ = some (.int .i64 a0_9) := (blk_cell hx2 9).trans rfl; have hy2_9 : w2.cell? ⟨w.heap.size + 1, 9, none⟩ = some (.int .i64 z9) := (blk_cell hy2 9).trans rfl; have HB2 := Aside0.mk hB2; clear hx2 hy2 hI2 hB2 hK2))
    all_goals
      go_ret
      clear HK hu45
      refine ⟨?_, by repeat (first | exact HB2.out | exact Below.refl _ _ | apply pw_below_drewN | refine below_set ?_ (Nat.le_succ _) | refine Below.alloc ?_ (by first | exact Nat.le_refl _ | simp) _)⟩
      first
        | rfl
        | (simp [refEq, *]; done)
        | (simp [refEq, *]; omega)
        | (simp [refEq, *]; intros; omega)
        | (simp_all [refEq]; done)
  case true =>
    rw [if_pos rfl] at h
    obtain rfl := Option.some.inj h
    clear h
    go_enter Tryd.func74, Tryd.ntmps74
    go_wp2_with (first | (go_at_call 63; (with_reducible refine (trammelref1_kids.calls k _ _ _ HK.out).mono ?_); rintro e w' ⟨rfl, ⟨nd, rfl⟩⟩) | (go_at_call 95; refine (trammelref1_bound.calls k 7 a0_1 a0_2 a0_3 a0_4 a0_5 a0_6 a0_7 a0_8 a0_9 (w.heap.size + 1) 7 a0_1 a0_2 a0_3 0 (⟨#[]⟩ : ByteArray) (⟨#[]⟩ : ByteArray) (⟨#[]⟩ : ByteArray) (⟨#[]⟩ : ByteArray) a0_9 true z0 z1 z2 z3 z4 z5 z6 z7 z8 z9 w _ ⟨(blk_put (cs' := #[.int .i64 7, .int .i64 a0_1, .int .i64 a0_2, .int .i64 a0_3, .int .i64 0, .string (⟨#[]⟩ : ByteArray), .string (⟨#[]⟩ : ByteArray), .string (⟨#[]⟩ : ByteArray), .string (⟨#[]⟩ : ByteArray), .int .i64 a0_9]) (blk_put (cs' := #[.int .i64 7, .int .i64 a0_1, .int .i64 a0_2, .int .i64 0, .int .i64 0, .string (⟨#[]⟩ : ByteArray), .string (⟨#[]⟩ : ByteArray), .string (⟨#[]⟩ : ByteArray), .string (⟨#[]⟩ : ByteArray), .int .i64 a0_9]) (blk_put (cs' := #[.int .i64 7, .int .i64 a0_1, .int .i64 0, .int .i64 0, .int .i64 0, .string (⟨#[]⟩ : ByteArray), .string (⟨#[]⟩ : ByteArray), .string (⟨#[]⟩ : ByteArray), .string (⟨#[]⟩ : ByteArray), .int .i64 a0_9]) (show (((w.alloc (.cells #[.int .i64 7, .int .i64 a0_1, .int .i64 a0_2, .int .i64 a0_3, .int .i64 a0_4, .string a0_5, .string a0_6, .string a0_7, .string a0_8, .int .i64 a0_9] 45)).alloc (.cells #[.int .i64 7, .int .i64 0, .int .i64 0, .int .i64 0, .int .i64 0, .string (⟨#[]⟩ : ByteArray), .string (⟨#[]⟩ : ByteArray), .string (⟨#[]⟩ : ByteArray), .string (⟨#[]⟩ : ByteArray), .int .i64 a0_9] 45)).drewN nd).heap[w.heap.size + 1]? = some (.cells #[.int .i64 7, .int .i64 0, .int .i64 0, .int .i64 0, .int .i64 0, .string (⟨#[]⟩ : ByteArray), .string (⟨#[]⟩ : ByteArray), .string (⟨#[]⟩ : ByteArray), .string (⟨#[]⟩ : ByteArray), .int .i64 a0_9] 45 (0, 0)) from blk_drewN (by have h_ := blk_new (w.alloc (.cells #[.int .i64 7, .int .i64 a0_1, .int .i64 a0_2, .int .i64 a0_3, .int .i64 a0_4, .string a0_5, .string a0_6, .string a0_7, .string a0_8, .int .i64 a0_9] 45)) (.cells #[.int .i64 7, .int .i64 0, .int .i64 0, .int .i64 0, .int .i64 0, .string (⟨#[]⟩ : ByteArray), .string (⟨#[]⟩ : ByteArray), .string (⟨#[]⟩ : ByteArray), .string (⟨#[]⟩ : ByteArray), .int .i64 a0_9] 45); rwa [show (w.alloc (.cells #[.int .i64 7, .int .i64 a0_1, .int .i64 a0_2, .int .i64 a0_3, .int .i64 a0_4, .string a0_5, .string a0_6, .string a0_7, .string a0_8, .int .i64 a0_9] 45)).heap.size = w.heap.size + 1 from by simp] at h_) nd) 1 (.int .i64 a0_1) rfl) 2 (.int .i64 a0_2) rfl) 3 (.int .i64 a0_3) rfl), Nat.le_succ _⟩ (by repeat (first | exact Below.refl _ _ | apply pw_below_drewN | refine below_set ?_ (Nat.le_succ _) | refine Below.alloc ?_ (by first | exact Nat.le_refl _ | simp) _)) HZ.out).mono ?_; rintro e w2 ⟨rfl, hI2, hB2, hK2⟩; have hx2 := blk_keep hK2 (blk_far (p := ⟨w.heap.size + 1, 3, none⟩) (blk_far (p := ⟨w.heap.size + 1, 2, none⟩) (blk_far (p := ⟨w.heap.size + 1, 1, none⟩) (show (((w.alloc (.cells #[.int .i64 7, .int .i64 a0_1, .int .i64 a0_2, .int .i64 a0_3, .int .i64 a0_4, .string a0_5, .string a0_6, .string a0_7, .string a0_8, .int .i64 a0_9] 45)).alloc (.cells #[.int .i64 7, .int .i64 0, .int .i64 0, .int .i64 0, .int .i64 0, .string (⟨#[]⟩ : ByteArray), .string (⟨#[]⟩ : ByteArray), .string (⟨#[]⟩ : ByteArray), .string (⟨#[]⟩ : ByteArray), .int .i64 a0_9] 45)).drewN nd).heap[w.heap.size]? = some (.cells #[.int .i64 7, .int .i64 a0_1, .int .i64 a0_2, .int .i64 a0_3, .int .i64 a0_4, .string a0_5, .string a0_6, .string a0_7, .string a0_8, .int .i64 a0_9] 45 (0, 0)) from blk_drewN (blk_alloc (blk_new w _) _) nd) (Nat.ne_of_lt (Nat.lt_succ_self _)) (.int .i64 a0_1)) (Nat.ne_of_lt (Nat.lt_succ_self _)) (.int .i64 a0_2)) (Nat.ne_of_lt (Nat.lt_succ_self _)) (.int .i64 a0_3)) (Nat.ne_of_lt (Nat.lt_succ_self _)); have hy2 := hI2.1; have hx2_0 : w2.cell? ⟨w.heap.size, 0, none⟩ = some (.int .i64 7) := (blk_cell hx2 0).trans rfl; have hy2_0 : w2.cell? ⟨w.heap.size + 1, 0, none⟩ = some (.int .i64 z0) := (blk_cell hy2 0).trans rfl; have hx2_1 : w2.cell? ⟨w.heap.size, 1, none⟩ = some (.int .i64 a0_1) := (blk_cell hx2 1).trans rfl; have hy2_1 : w2.cell? ⟨w.heap.size + 1, 1, none⟩ = some (.int .i64 z1) := (blk_cell hy2 1).trans rfl; have hx2_2 : w2.cell? ⟨w.heap.size, 2, none⟩ = some (.int .i64 a0_2) := (blk_cell hx2 2).trans rfl; have hy2_2 : w2.cell? ⟨w.heap.size + 1, 2, none⟩ = some (.int .i64 z2) := (blk_cell hy2 2).trans rfl; have hx2_3 : w2.cell? ⟨w.heap.size, 3, none⟩ = some (.int .i64 a0_3) := (blk_cell hx2 3).trans rfl; have hy2_3 : w2.cell? ⟨w.heap.size + 1, 3, none⟩ = some (.int .i64 z3) := (blk_cell hy2 3).trans rfl; have hx2_4 : w2.cell? ⟨w.heap.size, 4, none⟩ = some (.int .i64 a0_4) := (blk_cell hx2 4).trans rfl; have hy2_4 : w2.cell? ⟨w.heap.size + 1, 4, none⟩ = some (.int .i64 z4) := (blk_cell hy2 4).trans rfl; have hx2_5 : w2.cell? ⟨w.heap.size, 5, none⟩ = some (.string a0_5) := (blk_cell hx2 5).trans rfl; have hy2_5 : w2.cell? ⟨w.heap.size + 1, 5, none⟩ = some (.string z5) := (blk_cell hy2 5).trans rfl; have hx2_6 : w2.cell? ⟨w.heap.size, 6, none⟩ = some (.string a0_6) := (blk_cell hx2 6).trans rfl; have hy2_6 : w2.cell? ⟨w.heap.size + 1, 6, none⟩ = some (.string z6) := (blk_cell hy2 6).trans rfl; have hx2_7 : w2.cell? ⟨w.heap.size, 7, none⟩ = some (.string a0_7) := (blk_cell hx2 7).trans rfl; have hy2_7 : w2.cell? ⟨w.heap.size + 1, 7, none⟩ = some (.string z7) := (blk_cell hy2 7).trans rfl; have hx2_8 : w2.cell? ⟨w.heap.size, 8, none⟩ = some (.string a0_8) := (blk_cell hx2 8).trans rfl; have hy2_8 : w2.cell? ⟨w.heap.size + 1, 8, none⟩ = some (.string z8) := (blk_cell hy2 8).trans rfl; have hx2_9 : w2.cell? ⟨w.heap.size, 9, none⟩ = some (.int .i64 a0_9) := (blk_cell hx2 9).trans rfl; have hy2_9 : w2.cell? ⟨w.heap.size + 1, 9, none⟩ = some (.int .i64 z9) := (blk_cell hy2 9).trans rfl; have HB2 := Aside0.mk hB2; clear hx2 hy2 hI2 hB2 hK2))
    all_goals
      go_ret
      clear HK hu45
      refine ⟨?_, by repeat (first | exact HB2.out | exact Below.refl _ _ | apply pw_below_drewN | refine below_set ?_ (Nat.le_succ _) | refine Below.alloc ?_ (by first | exact Nat.le_refl _ | simp) _)⟩
      first
        | rfl
        | (simp [refEq, *]; done)
        | (simp [refEq, *]; omega)
        | (simp [refEq, *]; intros; omega)
        | (simp_all [refEq]; done)
set_option maxRecDepth 100000 in
set_option maxHeartbeats 8000000 in
theorem fields_8_false (k : Nat) (a0_0 a0_1 a0_2 a0_3 a0_4 : Int) (a0_5 a0_6 a0_7 a0_8 : ByteArray) (a0_9 : Int) (r : Bool) (w : World) (hk : a0_0 = 8) (h : trammelref1_fields.f k a0_0 a0_1 a0_2 a0_3 a0_4 a0_5 a0_6 a0_7 a0_8 a0_9 false = some r) :
    Calls Tryd.prog 74 #[.agg #[.int .i64 a0_0, .int .i64 a0_1, .int .i64 a0_2, .int .i64 a0_3, .int .i64 a0_4, .string a0_5, .string a0_6, .string a0_7, .string a0_8, .int .i64 a0_9], .bool false] w fun e w' => e = .returned (.bool r) ∧ Below w.heap.size w w' := by
  have hu45 := Tryd.underlying45
  subst hk
  have hy : refY ⟨8, a0_1, a0_2, a0_3, a0_4, a0_5, a0_6, a0_7, a0_8, a0_9⟩ false = (⟨8, a0_1, a0_2, 0, a0_4, (⟨#[]⟩ : ByteArray), (⟨#[]⟩ : ByteArray), (⟨#[]⟩ : ByteArray), (⟨#[]⟩ : ByteArray), a0_9⟩ : S45) := by rfl
  unfold trammelref1_fields.f at h
  dsimp only at h
  rw [hy] at h
  replace h := Option.bind_eq_some_iff.mp h
  obtain ⟨c, hc, h⟩ := h
  have hc3 := refKids_is hc
  replace hc3 : c = 2 := hc3.trans (by decide)
  subst hc3
  have HK := Aside0.mk hc
  clear hc hy
  rw [if_neg (by decide), Option.bind_some, if_pos rfl] at h
  dsimp only at h
  obtain rfl := Option.some.inj h
  clear h
  go_enter Tryd.func74, Tryd.ntmps74
  go_wp2_with (go_at_call 63; (with_reducible refine (trammelref1_kids.calls k _ _ _ HK.out).mono ?_); rintro e w' ⟨rfl, ⟨nd, rfl⟩⟩)
  all_goals
    go_ret
    clear HK hu45
    refine ⟨?_, by repeat (first | exact Below.refl _ _ | apply pw_below_drewN | refine below_set ?_ (Nat.le_succ _) | refine Below.alloc ?_ (by first | exact Nat.le_refl _ | simp) _)⟩
    first
      | rfl
      | (simp [refEq, *]; done)
      | (simp [refEq, *]; omega)
      | (simp [refEq, *]; intros; omega)
      | (simp_all [refEq]; done)
set_option maxRecDepth 100000 in
set_option maxHeartbeats 8000000 in
theorem fields_8_true (k : Nat) (a0_0 a0_1 a0_2 a0_3 a0_4 : Int) (a0_5 a0_6 a0_7 a0_8 : ByteArray) (a0_9 : Int) (r : Bool) (w : World) (hk : a0_0 = 8) (h : trammelref1_fields.f k a0_0 a0_1 a0_2 a0_3 a0_4 a0_5 a0_6 a0_7 a0_8 a0_9 true = some r) :
    Calls Tryd.prog 74 #[.agg #[.int .i64 a0_0, .int .i64 a0_1, .int .i64 a0_2, .int .i64 a0_3, .int .i64 a0_4, .string a0_5, .string a0_6, .string a0_7, .string a0_8, .int .i64 a0_9], .bool true] w fun e w' => e = .returned (.bool r) ∧ Below w.heap.size w w' := by
  have hu45 := Tryd.underlying45
  subst hk
  have hy : refY ⟨8, a0_1, a0_2, a0_3, a0_4, a0_5, a0_6, a0_7, a0_8, a0_9⟩ true = (⟨8, a0_1, a0_2, 0, a0_4, (⟨#[]⟩ : ByteArray), (⟨#[]⟩ : ByteArray), (⟨#[]⟩ : ByteArray), (⟨#[]⟩ : ByteArray), a0_9⟩ : S45) := by rfl
  unfold trammelref1_fields.f at h
  dsimp only at h
  rw [hy] at h
  replace h := Option.bind_eq_some_iff.mp h
  obtain ⟨c, hc, h⟩ := h
  have hc3 := refKids_is hc
  replace hc3 : c = 2 := hc3.trans (by decide)
  subst hc3
  have HK := Aside0.mk hc
  clear hc hy
  replace h := Option.bind_eq_some_iff.mp h
  obtain ⟨⟨ok, z0, z1, z2, z3, z4, z5, z6, z7, z8, z9⟩, hz, h⟩ := h
  rw [if_pos rfl] at hz
  have HZ := Aside0.mk (show trammelref1_bound.f k 8 a0_1 a0_2 a0_3 a0_4 a0_5 a0_6 a0_7 a0_8 a0_9 8 a0_1 a0_2 0 a0_4 (⟨#[]⟩ : ByteArray) (⟨#[]⟩ : ByteArray) (⟨#[]⟩ : ByteArray) (⟨#[]⟩ : ByteArray) a0_9 = some (ok, z0, z1, z2, z3, z4, z5, z6, z7, z8, z9) from hz)
  clear hz
  dsimp only at h
  cases ok
  case false =>
    rw [if_neg (by decide)] at h
    obtain rfl := Option.some.inj h
    clear h
    go_enter Tryd.func74, Tryd.ntmps74
    go_wp2_with (first | (go_at_call 63; (with_reducible refine (trammelref1_kids.calls k _ _ _ HK.out).mono ?_); rintro e w' ⟨rfl, ⟨nd, rfl⟩⟩) | (go_at_call 95; refine (trammelref1_bound.calls k 8 a0_1 a0_2 a0_3 a0_4 a0_5 a0_6 a0_7 a0_8 a0_9 (w.heap.size + 1) 8 a0_1 a0_2 0 a0_4 (⟨#[]⟩ : ByteArray) (⟨#[]⟩ : ByteArray) (⟨#[]⟩ : ByteArray) (⟨#[]⟩ : ByteArray) a0_9 false z0 z1 z2 z3 z4 z5 z6 z7 z8 z9 w _ ⟨(blk_put (cs' := #[.int .i64 8, .int .i64 a0_1, .int .i64 a0_2, .int .i64 0, .int .i64 a0_4, .string (⟨#[]⟩ : ByteArray), .string (⟨#[]⟩ : ByteArray), .string (⟨#[]⟩ : ByteArray), .string (⟨#[]⟩ : ByteArray), .int .i64 a0_9]) (blk_put (cs' := #[.int .i64 8, .int .i64 a0_1, .int .i64 a0_2, .int .i64 0, .int .i64 0, .string (⟨#[]⟩ : ByteArray), .string (⟨#[]⟩ : ByteArray), .string (⟨#[]⟩ : ByteArray), .string (⟨#[]⟩ : ByteArray), .int .i64 a0_9]) (blk_put (cs' := #[.int .i64 8, .int .i64 a0_1, .int .i64 0, .int .i64 0, .int .i64 0, .string (⟨#[]⟩ : ByteArray), .string (⟨#[]⟩ : ByteArray), .string (⟨#[]⟩ : ByteArray), .string (⟨#[]⟩ : ByteArray), .int .i64 a0_9]) (show (((w.alloc (.cells #[.int .i64 8, .int .i64 a0_1, .int .i64 a0_2, .int .i64 a0_3, .int .i64 a0_4, .string a0_5, .string a0_6, .string a0_7, .string a0_8, .int .i64 a0_9] 45)).alloc (.cells #[.int .i64 8, .int .i64 0, .int .i64 0, .int .i64 0, .int .i64 0, .string (⟨#[]⟩ : ByteArray), .string (⟨#[]⟩ : ByteArray), .string (⟨#[]⟩ : ByteArray), .string (⟨#[]⟩ : ByteArray), .int .i64 a0_9] 45)).drewN nd).heap[w.heap.size + 1]? = some (.cells #[.int .i64 8, .int .i64 0, .int .i64 0, .int .i64 0, .int .i64 0, .string (⟨#[]⟩ : ByteArray), .string (⟨#[]⟩ : ByteArray), .string (⟨#[]⟩ : ByteArray), .string (⟨#[]⟩ : ByteArray), .int .i64 a0_9] 45 (0, 0)) from blk_drewN (by have h_ := blk_new (w.alloc (.cells #[.int .i64 8, .int .i64 a0_1, .int .i64 a0_2, .int .i64 a0_3, .int .i64 a0_4, .string a0_5, .string a0_6, .string a0_7, .string a0_8, .int .i64 a0_9] 45)) (.cells #[.int .i64 8, .int .i64 0, .int .i64 0, .int .i64 0, .int .i64 0, .string (⟨#[]⟩ : ByteArray), .string (⟨#[]⟩ : ByteArray), .string (⟨#[]⟩ : ByteArray), .string (⟨#[]⟩ : ByteArray), .int .i64 a0_9] 45); rwa [show (w.alloc (.cells #[.int .i64 8, .int .i64 a0_1, .int .i64 a0_2, .int .i64 a0_3, .int .i64 a0_4, .string a0_5, .string a0_6, .string a0_7, .string a0_8, .int .i64 a0_9] 45)).heap.size = w.heap.size + 1 from by simp] at h_) nd) 1 (.int .i64 a0_1) rfl) 2 (.int .i64 a0_2) rfl) 4 (.int .i64 a0_4) rfl), Nat.le_succ _⟩ (by repeat (first | exact Below.refl _ _ | apply pw_below_drewN | refine below_set ?_ (Nat.le_succ _) | refine Below.alloc ?_ (by first | exact Nat.le_refl _ | simp) _)) HZ.out).mono ?_; rintro e w2 ⟨rfl, hI2, hB2, hK2⟩; have hx2 := blk_keep hK2 (blk_far (p := ⟨w.heap.size + 1, 4, none⟩) (blk_far (p := ⟨w.heap.size + 1, 2, none⟩) (blk_far (p := ⟨w.heap.size + 1, 1, none⟩) (show (((w.alloc (.cells #[.int .i64 8, .int .i64 a0_1, .int .i64 a0_2, .int .i64 a0_3, .int .i64 a0_4, .string a0_5, .string a0_6, .string a0_7, .string a0_8, .int .i64 a0_9] 45)).alloc (.cells #[.int .i64 8, .int .i64 0, .int .i64 0, .int .i64 0, .int .i64 0, .string (⟨#[]⟩ : ByteArray), .string (⟨#[]⟩ : ByteArray), .string (⟨#[]⟩ : ByteArray), .string (⟨#[]⟩ : ByteArray), .int .i64 a0_9] 45)).drewN nd).heap[w.heap.size]? = some (.cells #[.int .i64 8, .int .i64 a0_1, .int .i64 a0_2, .int .i64 a0_3, .int .i64 a0_4, .string a0_5, .string a0_6, .string a0_7, .string a0_8, .int .i64 a0_9] 45 (0, 0)) from blk_drewN (blk_alloc (blk_new w _) _) nd) (Nat.ne_of_lt (Nat.lt_succ_self _)) (.int .i64 a0_1)) (Nat.ne_of_lt (Nat.lt_succ_self _)) (.int .i64 a0_2)) (Nat.ne_of_lt (Nat.lt_succ_self _)) (.int .i64 a0_4)) (Nat.ne_of_lt (Nat.lt_succ_self _)); have hy2 := hI2.1; have hx2_0 : w2.cell? ⟨w.heap.size, 0, none⟩ = some (.int .i64 8) := (blk_cell hx2 0).trans rfl; have hy2_0 : w2.cell? ⟨w.heap.size + 1, 0, none⟩ = some (.int .i64 z0) := (blk_cell hy2 0).trans rfl; have hx2_1 : w2.cell? ⟨w.heap.size, 1, none⟩ = some (.int .i64 a0_1) := (blk_cell hx2 1).trans rfl; have hy2_1 : w2.cell? ⟨w.heap.size + 1, 1, none⟩ = some (.int .i64 z1) := (blk_cell hy2 1).trans rfl; have hx2_2 : w2.cell? ⟨w.heap.size, 2, none⟩ = some (.int .i64 a0_2) := (blk_cell hx2 2).trans rfl; have hy2_2 : w2.cell? ⟨w.heap.size + 1, 2, none⟩ = some (.int .i64 z2) := (blk_cell hy2 2).trans rfl; have hx2_3 : w2.cell? ⟨w.heap.size, 3, none⟩ = some (.int .i64 a0_3) := (blk_cell hx2 3).trans rfl; have hy2_3 : w2.cell? ⟨w.heap.size + 1, 3, none⟩ = some (.int .i64 z3) := (blk_cell hy2 3).trans rfl; have hx2_4 : w2.cell? ⟨w.heap.size, 4, none⟩ = some (.int .i64 a0_4) := (blk_cell hx2 4).trans rfl; have hy2_4 : w2.cell? ⟨w.heap.size + 1, 4, none⟩ = some (.int .i64 z4) := (blk_cell hy2 4).trans rfl; have hx2_5 : w2.cell? ⟨w.heap.size, 5, none⟩ = some (.string a0_5) := (blk_cell hx2 5).trans rfl; have hy2_5 : w2.cell? ⟨w.heap.size + 1, 5, none⟩ = some (.string z5) := (blk_cell hy2 5).trans rfl; have hx2_6 : w2.cell? ⟨w.heap.size, 6, none⟩ = some (.string a0_6) := (blk_cell hx2 6).trans rfl; have hy2_6 : w2.cell? ⟨w.heap.size + 1, 6, none⟩ = some (.string z6) := (blk_cell hy2 6).trans rfl; have hx2_7 : w2.cell? ⟨w.heap.size, 7, none⟩ = some (.string a0_7) := (blk_cell hx2 7).trans rfl; have hy2_7 : w2.cell? ⟨w.heap.size + 1, 7, none⟩ = some (.string z7) := (blk_cell hy2 7).trans rfl; have hx2_8 : w2.cell? ⟨w.heap.size, 8, none⟩ = some (.string a0_8) := (blk_cell hx2 8).trans rfl; have hy2_8 : w2.cell? ⟨w.heap.size + 1, 8, none⟩ = some (.string z8) := (blk_cell hy2 8).trans rfl; have hx2_9 : w2.cell? ⟨w.heap.size, 9, none⟩ = some (.int .i64 a0_9) := (blk_cell hx2 9).trans rfl; have hy2_9 : w2.cell? ⟨w.heap.size + 1, 9, none⟩ = some (.int .i64 z9) := (blk_cell hy2 9).trans rfl; have HB2 := Aside0.mk hB2; clear hx2 hy2 hI2 hB2 hK2))
    all_goals
      go_ret
      clear HK hu45
      refine ⟨?_, by repeat (first | exact HB2.out | exact Below.refl _ _ | apply pw_below_drewN | refine below_set ?_ (Nat.le_succ _) | refine Below.alloc ?_ (by first | exact Nat.le_refl _ | simp) _)⟩
      first
        | rfl
        | (simp [refEq, *]; done)
        | (simp [refEq, *]; omega)
        | (simp [refEq, *]; intros; omega)
        | (simp_all [refEq]; done)
  case true =>
    rw [if_pos rfl] at h
    obtain rfl := Option.some.inj h
    clear h
    go_enter Tryd.func74, Tryd.ntmps74
    go_wp2_with (first | (go_at_call 63; (with_reducible refine (trammelref1_kids.calls k _ _ _ HK.out).mono ?_); rintro e w' ⟨rfl, ⟨nd, rfl⟩⟩) | (go_at_call 95; refine (trammelref1_bound.calls k 8 a0_1 a0_2 a0_3 a0_4 a0_5 a0_6 a0_7 a0_8 a0_9 (w.heap.size + 1) 8 a0_1 a0_2 0 a0_4 (⟨#[]⟩ : ByteArray) (⟨#[]⟩ : ByteArray) (⟨#[]⟩ : ByteArray) (⟨#[]⟩ : ByteArray) a0_9 true z0 z1 z2 z3 z4 z5 z6 z7 z8 z9 w _ ⟨(blk_put (cs' := #[.int .i64 8, .int .i64 a0_1, .int .i64 a0_2, .int .i64 0, .int .i64 a0_4, .string (⟨#[]⟩ : ByteArray), .string (⟨#[]⟩ : ByteArray), .string (⟨#[]⟩ : ByteArray), .string (⟨#[]⟩ : ByteArray), .int .i64 a0_9]) (blk_put (cs' := #[.int .i64 8, .int .i64 a0_1, .int .i64 a0_2, .int .i64 0, .int .i64 0, .string (⟨#[]⟩ : ByteArray), .string (⟨#[]⟩ : ByteArray), .string (⟨#[]⟩ : ByteArray), .string (⟨#[]⟩ : ByteArray), .int .i64 a0_9]) (blk_put (cs' := #[.int .i64 8, .int .i64 a0_1, .int .i64 0, .int .i64 0, .int .i64 0, .string (⟨#[]⟩ : ByteArray), .string (⟨#[]⟩ : ByteArray), .string (⟨#[]⟩ : ByteArray), .string (⟨#[]⟩ : ByteArray), .int .i64 a0_9]) (show (((w.alloc (.cells #[.int .i64 8, .int .i64 a0_1, .int .i64 a0_2, .int .i64 a0_3, .int .i64 a0_4, .string a0_5, .string a0_6, .string a0_7, .string a0_8, .int .i64 a0_9] 45)).alloc (.cells #[.int .i64 8, .int .i64 0, .int .i64 0, .int .i64 0, .int .i64 0, .string (⟨#[]⟩ : ByteArray), .string (⟨#[]⟩ : ByteArray), .string (⟨#[]⟩ : ByteArray), .string (⟨#[]⟩ : ByteArray), .int .i64 a0_9] 45)).drewN nd).heap[w.heap.size + 1]? = some (.cells #[.int .i64 8, .int .i64 0, .int .i64 0, .int .i64 0, .int .i64 0, .string (⟨#[]⟩ : ByteArray), .string (⟨#[]⟩ : ByteArray), .string (⟨#[]⟩ : ByteArray), .string (⟨#[]⟩ : ByteArray), .int .i64 a0_9] 45 (0, 0)) from blk_drewN (by have h_ := blk_new (w.alloc (.cells #[.int .i64 8, .int .i64 a0_1, .int .i64 a0_2, .int .i64 a0_3, .int .i64 a0_4, .string a0_5, .string a0_6, .string a0_7, .string a0_8, .int .i64 a0_9] 45)) (.cells #[.int .i64 8, .int .i64 0, .int .i64 0, .int .i64 0, .int .i64 0, .string (⟨#[]⟩ : ByteArray), .string (⟨#[]⟩ : ByteArray), .string (⟨#[]⟩ : ByteArray), .string (⟨#[]⟩ : ByteArray), .int .i64 a0_9] 45); rwa [show (w.alloc (.cells #[.int .i64 8, .int .i64 a0_1, .int .i64 a0_2, .int .i64 a0_3, .int .i64 a0_4, .string a0_5, .string a0_6, .string a0_7, .string a0_8, .int .i64 a0_9] 45)).heap.size = w.heap.size + 1 from by simp] at h_) nd) 1 (.int .i64 a0_1) rfl) 2 (.int .i64 a0_2) rfl) 4 (.int .i64 a0_4) rfl), Nat.le_succ _⟩ (by repeat (first | exact Below.refl _ _ | apply pw_below_drewN | refine below_set ?_ (Nat.le_succ _) | refine Below.alloc ?_ (by first | exact Nat.le_refl _ | simp) _)) HZ.out).mono ?_; rintro e w2 ⟨rfl, hI2, hB2, hK2⟩; have hx2 := blk_keep hK2 (blk_far (p := ⟨w.heap.size + 1, 4, none⟩) (blk_far (p := ⟨w.heap.size + 1, 2, none⟩) (blk_far (p := ⟨w.heap.size + 1, 1, none⟩) (show (((w.alloc (.cells #[.int .i64 8, .int .i64 a0_1, .int .i64 a0_2, .int .i64 a0_3, .int .i64 a0_4, .string a0_5, .string a0_6, .string a0_7, .string a0_8, .int .i64 a0_9] 45)).alloc (.cells #[.int .i64 8, .int .i64 0, .int .i64 0, .int .i64 0, .int .i64 0, .string (⟨#[]⟩ : ByteArray), .string (⟨#[]⟩ : ByteArray), .string (⟨#[]⟩ : ByteArray), .string (⟨#[]⟩ : ByteArray), .int .i64 a0_9] 45)).drewN nd).heap[w.heap.size]? = some (.cells #[.int .i64 8, .int .i64 a0_1, .int .i64 a0_2, .int .i64 a0_3, .int .i64 a0_4, .string a0_5, .string a0_6, .string a0_7, .string a0_8, .int .i64 a0_9] 45 (0, 0)) from blk_drewN (blk_alloc (blk_new w _) _) nd) (Nat.ne_of_lt (Nat.lt_succ_self _)) (.int .i64 a0_1)) (Nat.ne_of_lt (Nat.lt_succ_self _)) (.int .i64 a0_2)) (Nat.ne_of_lt (Nat.lt_succ_self _)) (.int .i64 a0_4)) (Nat.ne_of_lt (Nat.lt_succ_self _)); have hy2 := hI2.1; have hx2_0 : w2.cell? ⟨w.heap.size, 0, none⟩ = some (.int .i64 8) := (blk_cell hx2 0).trans rfl; have hy2_0 : w2.cell? ⟨w.heap.size + 1, 0, none⟩ = some (.int .i64 z0) := (blk_cell hy2 0).trans rfl; have hx2_1 : w2.cell? ⟨w.heap.size, 1, none⟩ = some (.int .i64 a0_1) := (blk_cell hx2 1).trans rfl; have hy2_1 : w2.cell? ⟨w.heap.size + 1, 1, none⟩ = some (.int .i64 z1) := (blk_cell hy2 1).trans rfl; have hx2_2 : w2.cell? ⟨w.heap.size, 2, none⟩ = some (.int .i64 a0_2) := (blk_cell hx2 2).trans rfl; have hy2_2 : w2.cell? ⟨w.heap.size + 1, 2, none⟩ = some (.int .i64 z2) := (blk_cell hy2 2).trans rfl; have hx2_3 : w2.cell? ⟨w.heap.size, 3, none⟩ = some (.int .i64 a0_3) := (blk_cell hx2 3).trans rfl; have hy2_3 : w2.cell? ⟨w.heap.size + 1, 3, none⟩ = some (.int .i64 z3) := (blk_cell hy2 3).trans rfl; have hx2_4 : w2.cell? ⟨w.heap.size, 4, none⟩ = some (.int .i64 a0_4) := (blk_cell hx2 4).trans rfl; have hy2_4 : w2.cell? ⟨w.heap.size + 1, 4, none⟩ = some (.int .i64 z4) := (blk_cell hy2 4).trans rfl; have hx2_5 : w2.cell? ⟨w.heap.size, 5, none⟩ = some (.string a0_5) := (blk_cell hx2 5).trans rfl; have hy2_5 : w2.cell? ⟨w.heap.size + 1, 5, none⟩ = some (.string z5) := (blk_cell hy2 5).trans rfl; have hx2_6 : w2.cell? ⟨w.heap.size, 6, none⟩ = some (.string a0_6) := (blk_cell hx2 6).trans rfl; have hy2_6 : w2.cell? ⟨w.heap.size + 1, 6, none⟩ = some (.string z6) := (blk_cell hy2 6).trans rfl; have hx2_7 : w2.cell? ⟨w.heap.size, 7, none⟩ = some (.string a0_7) := (blk_cell hx2 7).trans rfl; have hy2_7 : w2.cell? ⟨w.heap.size + 1, 7, none⟩ = some (.string z7) := (blk_cell hy2 7).trans rfl; have hx2_8 : w2.cell? ⟨w.heap.size, 8, none⟩ = some (.string a0_8) := (blk_cell hx2 8).trans rfl; have hy2_8 : w2.cell? ⟨w.heap.size + 1, 8, none⟩ = some (.string z8) := (blk_cell hy2 8).trans rfl; have hx2_9 : w2.cell? ⟨w.heap.size, 9, none⟩ = some (.int .i64 a0_9) := (blk_cell hx2 9).trans rfl; have hy2_9 : w2.cell? ⟨w.heap.size + 1, 9, none⟩ = some (.int .i64 z9) := (blk_cell hy2 9).trans rfl; have HB2 := Aside0.mk hB2; clear hx2 hy2 hI2 hB2 hK2))
    all_goals
      go_ret
      clear HK hu45
      refine ⟨?_, by repeat (first | exact HB2.out | exact Below.refl _ _ | apply pw_below_drewN | refine below_set ?_ (Nat.le_succ _) | refine Below.alloc ?_ (by first | exact Nat.le_refl _ | simp) _)⟩
      first
        | rfl
        | (simp [refEq, *]; done)
        | (simp [refEq, *]; omega)
        | (simp [refEq, *]; intros; omega)
        | (simp_all [refEq]; done)
set_option maxRecDepth 100000 in
set_option maxHeartbeats 8000000 in
theorem fields_9_false (k : Nat) (a0_0 a0_1 a0_2 a0_3 a0_4 : Int) (a0_5 a0_6 a0_7 a0_8 : ByteArray) (a0_9 : Int) (r : Bool) (w : World) (hk : a0_0 = 9) (h : trammelref1_fields.f k a0_0 a0_1 a0_2 a0_3 a0_4 a0_5 a0_6 a0_7 a0_8 a0_9 false = some r) :
    Calls Tryd.prog 74 #[.agg #[.int .i64 a0_0, .int .i64 a0_1, .int .i64 a0_2, .int .i64 a0_3, .int .i64 a0_4, .string a0_5, .string a0_6, .string a0_7, .string a0_8, .int .i64 a0_9], .bool false] w fun e w' => e = .returned (.bool r) ∧ Below w.heap.size w w' := by
  have hu45 := Tryd.underlying45
  subst hk
  have hy : refY ⟨9, a0_1, a0_2, a0_3, a0_4, a0_5, a0_6, a0_7, a0_8, a0_9⟩ false = (⟨9, a0_1, 0, 0, a0_4, (⟨#[]⟩ : ByteArray), (⟨#[]⟩ : ByteArray), (⟨#[]⟩ : ByteArray), (⟨#[]⟩ : ByteArray), a0_9⟩ : S45) := by rfl
  unfold trammelref1_fields.f at h
  dsimp only at h
  rw [hy] at h
  replace h := Option.bind_eq_some_iff.mp h
  obtain ⟨c, hc, h⟩ := h
  have hc3 := refKids_is hc
  replace hc3 : c = 1 := hc3.trans (by decide)
  subst hc3
  have HK := Aside0.mk hc
  clear hc hy
  rw [if_neg (by decide), Option.bind_some, if_pos rfl] at h
  dsimp only at h
  obtain rfl := Option.some.inj h
  clear h
  go_enter Tryd.func74, Tryd.ntmps74
  go_wp2_with (go_at_call 63; (with_reducible refine (trammelref1_kids.calls k _ _ _ HK.out).mono ?_); rintro e w' ⟨rfl, ⟨nd, rfl⟩⟩)
  all_goals
    go_ret
    clear HK hu45
    refine ⟨?_, by repeat (first | exact Below.refl _ _ | apply pw_below_drewN | refine below_set ?_ (Nat.le_succ _) | refine Below.alloc ?_ (by first | exact Nat.le_refl _ | simp) _)⟩
    first
      | rfl
      | (simp [refEq, *]; done)
      | (simp [refEq, *]; omega)
      | (simp [refEq, *]; intros; omega)
      | (simp_all [refEq]; done)
end Go.Proofs.YtnogfhhfklkbiaaDoor.H

namespace Go.Proofs.YtnogfhhfklkbiaaDoor.H
open Go.RowKit Go.Proofs.YtnogfhhfklkbiaaDoorW.PrintWords Go.Proofs.YtnogfhhfklkbiaaDoorW.PrintLast Go.Proofs.YtnogfhhfklkbiaaDoorW.PrintMore
attribute [local go_sem] max2_int min2_int max_two min_two max_three min_three max_four min_four
set_option linter.unusedVariables false
set_option linter.unusedSimpArgs false
attribute [local go_sem high] eqA45
set_option maxRecDepth 100000 in
set_option maxHeartbeats 8000000 in
theorem fields_9_true (k : Nat) (a0_0 a0_1 a0_2 a0_3 a0_4 : Int) (a0_5 a0_6 a0_7 a0_8 : ByteArray) (a0_9 : Int) (r : Bool) (w : World) (hk : a0_0 = 9) (h : trammelref1_fields.f k a0_0 a0_1 a0_2 a0_3 a0_4 a0_5 a0_6 a0_7 a0_8 a0_9 true = some r) :
    Calls Tryd.prog 74 #[.agg #[.int .i64 a0_0, .int .i64 a0_1, .int .i64 a0_2, .int .i64 a0_3, .int .i64 a0_4, .string a0_5, .string a0_6, .string a0_7, .string a0_8, .int .i64 a0_9], .bool true] w fun e w' => e = .returned (.bool r) ∧ Below w.heap.size w w' := by
  have hu45 := Tryd.underlying45
  subst hk
  have hy : refY ⟨9, a0_1, a0_2, a0_3, a0_4, a0_5, a0_6, a0_7, a0_8, a0_9⟩ true = (⟨9, a0_1, 0, 0, 0, a0_5, (⟨#[]⟩ : ByteArray), (⟨#[]⟩ : ByteArray), (⟨#[]⟩ : ByteArray), a0_9⟩ : S45) := by rfl
  unfold trammelref1_fields.f at h
  dsimp only at h
  rw [hy] at h
  replace h := Option.bind_eq_some_iff.mp h
  obtain ⟨c, hc, h⟩ := h
  have hc3 := refKids_is hc
  replace hc3 : c = 1 := hc3.trans (by decide)
  subst hc3
  have HK := Aside0.mk hc
  clear hc hy
  replace h := Option.bind_eq_some_iff.mp h
  obtain ⟨⟨ok, z0, z1, z2, z3, z4, z5, z6, z7, z8, z9⟩, hz, h⟩ := h
  rw [if_pos rfl] at hz
  have HZ := Aside0.mk (show trammelref1_bound.f k 9 a0_1 a0_2 a0_3 a0_4 a0_5 a0_6 a0_7 a0_8 a0_9 9 a0_1 0 0 0 a0_5 (⟨#[]⟩ : ByteArray) (⟨#[]⟩ : ByteArray) (⟨#[]⟩ : ByteArray) a0_9 = some (ok, z0, z1, z2, z3, z4, z5, z6, z7, z8, z9) from hz)
  clear hz
  dsimp only at h
  cases ok
  case false =>
    rw [if_neg (by decide)] at h
    obtain rfl := Option.some.inj h
    clear h
    go_enter Tryd.func74, Tryd.ntmps74
    go_wp2_with (first | (go_at_call 63; (with_reducible refine (trammelref1_kids.calls k _ _ _ HK.out).mono ?_); rintro e w' ⟨rfl, ⟨nd, rfl⟩⟩) | (go_at_call 95; refine (trammelref1_bound.calls k 9 a0_1 a0_2 a0_3 a0_4 a0_5 a0_6 a0_7 a0_8 a0_9 (w.heap.size + 1) 9 a0_1 0 0 0 a0_5 (⟨#[]⟩ : ByteArray) (⟨#[]⟩ : ByteArray) (⟨#[]⟩ : ByteArray) a0_9 false z0 z1 z2 z3 z4 z5 z6 z7 z8 z9 w _ ⟨(blk_put (cs' := #[.int .i64 9, .int .i64 a0_1, .int .i64 0, .int .i64 0, .int .i64 0, .string a0_5, .string (⟨#[]⟩ : ByteArray), .string (⟨#[]⟩ : ByteArray), .string (⟨#[]⟩ : ByteArray), .int .i64 a0_9]) (blk_put (cs' := #[.int .i64 9, .int .i64 a0_1, .int .i64 0, .int .i64 0, .int .i64 0, .string (⟨#[]⟩ : ByteArray), .string (⟨#[]⟩ : ByteArray), .string (⟨#[]⟩ : ByteArray), .string (⟨#[]⟩ : ByteArray), .int .i64 a0_9]) (show (((w.alloc (.cells #[.int .i64 9, .int .i64 a0_1, .int .i64 a0_2, .int .i64 a0_3, .int .i64 a0_4, .string a0_5, .string a0_6, .string a0_7, .string a0_8, .int .i64 a0_9] 45)).alloc (.cells #[.int .i64 9, .int .i64 0, .int .i64 0, .int .i64 0, .int .i64 0, .string (⟨#[]⟩ : ByteArray), .string (⟨#[]⟩ : ByteArray), .string (⟨#[]⟩ : ByteArray), .string (⟨#[]⟩ : ByteArray), .int .i64 a0_9] 45)).drewN nd).heap[w.heap.size + 1]? = some (.cells #[.int .i64 9, .int .i64 0, .int .i64 0, .int .i64 0, .int .i64 0, .string (⟨#[]⟩ : ByteArray), .string (⟨#[]⟩ : ByteArray), .string (⟨#[]⟩ : ByteArray), .string (⟨#[]⟩ : ByteArray), .int .i64 a0_9] 45 (0, 0)) from blk_drewN (by have h_ := blk_new (w.alloc (.cells #[.int .i64 9, .int .i64 a0_1, .int .i64 a0_2, .int .i64 a0_3, .int .i64 a0_4, .string a0_5, .string a0_6, .string a0_7, .string a0_8, .int .i64 a0_9] 45)) (.cells #[.int .i64 9, .int .i64 0, .int .i64 0, .int .i64 0, .int .i64 0, .string (⟨#[]⟩ : ByteArray), .string (⟨#[]⟩ : ByteArray), .string (⟨#[]⟩ : ByteArray), .string (⟨#[]⟩ : ByteArray), .int .i64 a0_9] 45); rwa [show (w.alloc (.cells #[.int .i64 9, .int .i64 a0_1, .int .i64 a0_2, .int .i64 a0_3, .int .i64 a0_4, .string a0_5, .string a0_6, .string a0_7, .string a0_8, .int .i64 a0_9] 45)).heap.size = w.heap.size + 1 from by simp] at h_) nd) 1 (.int .i64 a0_1) rfl) 5 (.string a0_5) rfl), Nat.le_succ _⟩ (by repeat (first | exact Below.refl _ _ | apply pw_below_drewN | refine below_set ?_ (Nat.le_succ _) | refine Below.alloc ?_ (by first | exact Nat.le_refl _ | simp) _)) HZ.out).mono ?_; rintro e w2 ⟨rfl, hI2, hB2, hK2⟩; have hx2 := blk_keep hK2 (blk_far (p := ⟨w.heap.size + 1, 5, none⟩) (blk_far (p := ⟨w.heap.size + 1, 1, none⟩) (show (((w.alloc (.cells #[.int .i64 9, .int .i64 a0_1, .int .i64 a0_2, .int .i64 a0_3, .int .i64 a0_4, .string a0_5, .string a0_6, .string a0_7, .string a0_8, .int .i64 a0_9] 45)).alloc (.cells #[.int .i64 9, .int .i64 0, .int .i64 0, .int .i64 0, .int .i64 0, .string (⟨#[]⟩ : ByteArray), .string (⟨#[]⟩ : ByteArray), .string (⟨#[]⟩ : ByteArray), .string (⟨#[]⟩ : ByteArray), .int .i64 a0_9] 45)).drewN nd).heap[w.heap.size]? = some (.cells #[.int .i64 9, .int .i64 a0_1, .int .i64 a0_2, .int .i64 a0_3, .int .i64 a0_4, .string a0_5, .string a0_6, .string a0_7, .string a0_8, .int .i64 a0_9] 45 (0, 0)) from blk_drewN (blk_alloc (blk_new w _) _) nd) (Nat.ne_of_lt (Nat.lt_succ_self _)) (.int .i64 a0_1)) (Nat.ne_of_lt (Nat.lt_succ_self _)) (.string a0_5)) (Nat.ne_of_lt (Nat.lt_succ_self _)); have hy2 := hI2.1; have hx2_0 : w2.cell? ⟨w.heap.size, 0, none⟩ = some (.int .i64 9) := (blk_cell hx2 0).trans rfl; have hy2_0 : w2.cell? ⟨w.heap.size + 1, 0, none⟩ = some (.int .i64 z0) := (blk_cell hy2 0).trans rfl; have hx2_1 : w2.cell? ⟨w.heap.size, 1, none⟩ = some (.int .i64 a0_1) := (blk_cell hx2 1).trans rfl; have hy2_1 : w2.cell? ⟨w.heap.size + 1, 1, none⟩ = some (.int .i64 z1) := (blk_cell hy2 1).trans rfl; have hx2_2 : w2.cell? ⟨w.heap.size, 2, none⟩ = some (.int .i64 a0_2) := (blk_cell hx2 2).trans rfl; have hy2_2 : w2.cell? ⟨w.heap.size + 1, 2, none⟩ = some (.int .i64 z2) := (blk_cell hy2 2).trans rfl; have hx2_3 : w2.cell? ⟨w.heap.size, 3, none⟩ = some (.int .i64 a0_3) := (blk_cell hx2 3).trans rfl; have hy2_3 : w2.cell? ⟨w.heap.size + 1, 3, none⟩ = some (.int .i64 z3) := (blk_cell hy2 3).trans rfl; have hx2_4 : w2.cell? ⟨w.heap.size, 4, none⟩ = some (.int .i64 a0_4) := (blk_cell hx2 4).trans rfl; have hy2_4 : w2.cell? ⟨w.heap.size + 1, 4, none⟩ = some (.int .i64 z4) := (blk_cell hy2 4).trans rfl; have hx2_5 : w2.cell? ⟨w.heap.size, 5, none⟩ = some (.string a0_5) := (blk_cell hx2 5).trans rfl; have hy2_5 : w2.cell? ⟨w.heap.size + 1, 5, none⟩ = some (.string z5) := (blk_cell hy2 5).trans rfl; have hx2_6 : w2.cell? ⟨w.heap.size, 6, none⟩ = some (.string a0_6) := (blk_cell hx2 6).trans rfl; have hy2_6 : w2.cell? ⟨w.heap.size + 1, 6, none⟩ = some (.string z6) := (blk_cell hy2 6).trans rfl; have hx2_7 : w2.cell? ⟨w.heap.size, 7, none⟩ = some (.string a0_7) := (blk_cell hx2 7).trans rfl; have hy2_7 : w2.cell? ⟨w.heap.size + 1, 7, none⟩ = some (.string z7) := (blk_cell hy2 7).trans rfl; have hx2_8 : w2.cell? ⟨w.heap.size, 8, none⟩ = some (.string a0_8) := (blk_cell hx2 8).trans rfl; have hy2_8 : w2.cell? ⟨w.heap.size + 1, 8, none⟩ = some (.string z8) := (blk_cell hy2 8).trans rfl; have hx2_9 : w2.cell? ⟨w.heap.size, 9, none⟩ = some (.int .i64 a0_9) := (blk_cell hx2 9).trans rfl; have hy2_9 : w2.cell? ⟨w.heap.size + 1, 9, none⟩ = some (.int .i64 z9) := (blk_cell hy2 9).trans rfl; have HB2 := Aside0.mk hB2; clear hx2 hy2 hI2 hB2 hK2))
    all_goals
      go_ret
      clear HK hu45
      refine ⟨?_, by repeat (first | exact HB2.out | exact Below.refl _ _ | apply pw_below_drewN | refine below_set ?_ (Nat.le_succ _) | refine Below.alloc ?_ (by first | exact Nat.le_refl _ | simp) _)⟩
      first
        | rfl
        | (simp [refEq, *]; done)
        | (simp [refEq, *]; omega)
        | (simp [refEq, *]; intros; omega)
        | (simp_all [refEq]; done)
  case true =>
    rw [if_pos rfl] at h
    obtain rfl := Option.some.inj h
    clear h
    go_enter Tryd.func74, Tryd.ntmps74
    go_wp2_with (first | (go_at_call 63; (with_reducible refine (trammelref1_kids.calls k _ _ _ HK.out).mono ?_); rintro e w' ⟨rfl, ⟨nd, rfl⟩⟩) | (go_at_call 95; refine (trammelref1_bound.calls k 9 a0_1 a0_2 a0_3 a0_4 a0_5 a0_6 a0_7 a0_8 a0_9 (w.heap.size + 1) 9 a0_1 0 0 0 a0_5 (⟨#[]⟩ : ByteArray) (⟨#[]⟩ : ByteArray) (⟨#[]⟩ : ByteArray) a0_9 true z0 z1 z2 z3 z4 z5 z6 z7 z8 z9 w _ ⟨(blk_put (cs' := #[.int .i64 9, .int .i64 a0_1, .int .i64 0, .int .i64 0, .int .i64 0, .string a0_5, .string (⟨#[]⟩ : ByteArray), .string (⟨#[]⟩ : ByteArray), .string (⟨#[]⟩ : ByteArray), .int .i64 a0_9]) (blk_put (cs' := #[.int .i64 9, .int .i64 a0_1, .int .i64 0, .int .i64 0, .int .i64 0, .string (⟨#[]⟩ : ByteArray), .string (⟨#[]⟩ : ByteArray), .string (⟨#[]⟩ : ByteArray), .string (⟨#[]⟩ : ByteArray), .int .i64 a0_9]) (show (((w.alloc (.cells #[.int .i64 9, .int .i64 a0_1, .int .i64 a0_2, .int .i64 a0_3, .int .i64 a0_4, .string a0_5, .string a0_6, .string a0_7, .string a0_8, .int .i64 a0_9] 45)).alloc (.cells #[.int .i64 9, .int .i64 0, .int .i64 0, .int .i64 0, .int .i64 0, .string (⟨#[]⟩ : ByteArray), .string (⟨#[]⟩ : ByteArray), .string (⟨#[]⟩ : ByteArray), .string (⟨#[]⟩ : ByteArray), .int .i64 a0_9] 45)).drewN nd).heap[w.heap.size + 1]? = some (.cells #[.int .i64 9, .int .i64 0, .int .i64 0, .int .i64 0, .int .i64 0, .string (⟨#[]⟩ : ByteArray), .string (⟨#[]⟩ : ByteArray), .string (⟨#[]⟩ : ByteArray), .string (⟨#[]⟩ : ByteArray), .int .i64 a0_9] 45 (0, 0)) from blk_drewN (by have h_ := blk_new (w.alloc (.cells #[.int .i64 9, .int .i64 a0_1, .int .i64 a0_2, .int .i64 a0_3, .int .i64 a0_4, .string a0_5, .string a0_6, .string a0_7, .string a0_8, .int .i64 a0_9] 45)) (.cells #[.int .i64 9, .int .i64 0, .int .i64 0, .int .i64 0, .int .i64 0, .string (⟨#[]⟩ : ByteArray), .string (⟨#[]⟩ : ByteArray), .string (⟨#[]⟩ : ByteArray), .string (⟨#[]⟩ : ByteArray), .int .i64 a0_9] 45); rwa [show (w.alloc (.cells #[.int .i64 9, .int .i64 a0_1, .int .i64 a0_2, .int .i64 a0_3, .int .i64 a0_4, .string a0_5, .string a0_6, .string a0_7, .string a0_8, .int .i64 a0_9] 45)).heap.size = w.heap.size + 1 from by simp] at h_) nd) 1 (.int .i64 a0_1) rfl) 5 (.string a0_5) rfl), Nat.le_succ _⟩ (by repeat (first | exact Below.refl _ _ | apply pw_below_drewN | refine below_set ?_ (Nat.le_succ _) | refine Below.alloc ?_ (by first | exact Nat.le_refl _ | simp) _)) HZ.out).mono ?_; rintro e w2 ⟨rfl, hI2, hB2, hK2⟩; have hx2 := blk_keep hK2 (blk_far (p := ⟨w.heap.size + 1, 5, none⟩) (blk_far (p := ⟨w.heap.size + 1, 1, none⟩) (show (((w.alloc (.cells #[.int .i64 9, .int .i64 a0_1, .int .i64 a0_2, .int .i64 a0_3, .int .i64 a0_4, .string a0_5, .string a0_6, .string a0_7, .string a0_8, .int .i64 a0_9] 45)).alloc (.cells #[.int .i64 9, .int .i64 0, .int .i64 0, .int .i64 0, .int .i64 0, .string (⟨#[]⟩ : ByteArray), .string (⟨#[]⟩ : ByteArray), .string (⟨#[]⟩ : ByteArray), .string (⟨#[]⟩ : ByteArray), .int .i64 a0_9] 45)).drewN nd).heap[w.heap.size]? = some (.cells #[.int .i64 9, .int .i64 a0_1, .int .i64 a0_2, .int .i64 a0_3, .int .i64 a0_4, .string a0_5, .string a0_6, .string a0_7, .string a0_8, .int .i64 a0_9] 45 (0, 0)) from blk_drewN (blk_alloc (blk_new w _) _) nd) (Nat.ne_of_lt (Nat.lt_succ_self _)) (.int .i64 a0_1)) (Nat.ne_of_lt (Nat.lt_succ_self _)) (.string a0_5)) (Nat.ne_of_lt (Nat.lt_succ_self _)); have hy2 := hI2.1; have hx2_0 : w2.cell? ⟨w.heap.size, 0, none⟩ = some (.int .i64 9) := (blk_cell hx2 0).trans rfl; have hy2_0 : w2.cell? ⟨w.heap.size + 1, 0, none⟩ = some (.int .i64 z0) := (blk_cell hy2 0).trans rfl; have hx2_1 : w2.cell? ⟨w.heap.size, 1, none⟩ = some (.int .i64 a0_1) := (blk_cell hx2 1).trans rfl; have hy2_1 : w2.cell? ⟨w.heap.size + 1, 1, none⟩ = some (.int .i64 z1) := (blk_cell hy2 1).trans rfl; have hx2_2 : w2.cell? ⟨w.heap.size, 2, none⟩ = some (.int .i64 a0_2) := (blk_cell hx2 2).trans rfl; have hy2_2 : w2.cell? ⟨w.heap.size + 1, 2, none⟩ = some (.int .i64 z2) := (blk_cell hy2 2).trans rfl; have hx2_3 : w2.cell? ⟨w.heap.size, 3, none⟩ = some (.int .i64 a0_3) := (blk_cell hx2 3).trans rfl; have hy2_3 : w2.cell? ⟨w.heap.size + 1, 3, none⟩ = some (.int .i64 z3) := (blk_cell hy2 3).trans rfl; have hx2_4 : w2.cell? ⟨w.heap.size, 4, none⟩ = some (.int .i64 a0_4) := (blk_cell hx2 4).trans rfl; have hy2_4 : w2.cell? ⟨w.heap.size + 1, 4, none⟩ = some (.int .i64 z4) := (blk_cell hy2 4).trans rfl; have hx2_5 : w2.cell? ⟨w.heap.size, 5, none⟩ = some (.string a0_5) := (blk_cell hx2 5).trans rfl; have hy2_5 : w2.cell? ⟨w.heap.size + 1, 5, none⟩ = some (.string z5) := (blk_cell hy2 5).trans rfl; have hx2_6 : w2.cell? ⟨w.heap.size, 6, none⟩ = some (.string a0_6) := (blk_cell hx2 6).trans rfl; have hy2_6 : w2.cell? ⟨w.heap.size + 1, 6, none⟩ = some (.string z6) := (blk_cell hy2 6).trans rfl; have hx2_7 : w2.cell? ⟨w.heap.size, 7, none⟩ = some (.string a0_7) := (blk_cell hx2 7).trans rfl; have hy2_7 : w2.cell? ⟨w.heap.size + 1, 7, none⟩ = some (.string z7) := (blk_cell hy2 7).trans rfl; have hx2_8 : w2.cell? ⟨w.heap.size, 8, none⟩ = some (.string a0_8) := (blk_cell hx2 8).trans rfl; have hy2_8 : w2.cell? ⟨w.heap.size + 1, 8, none⟩ = some (.string z8) := (blk_cell hy2 8).trans rfl; have hx2_9 : w2.cell? ⟨w.heap.size, 9, none⟩ = some (.int .i64 a0_9) := (blk_cell hx2 9).trans rfl; have hy2_9 : w2.cell? ⟨w.heap.size + 1, 9, none⟩ = some (.int .i64 z9) := (blk_cell hy2 9).trans rfl; have HB2 := Aside0.mk hB2; clear hx2 hy2 hI2 hB2 hK2))
    all_goals
      go_ret
      clear HK hu45
      refine ⟨?_, by repeat (first | exact HB2.out | exact Below.refl _ _ | apply pw_below_drewN | refine below_set ?_ (Nat.le_succ _) | refine Below.alloc ?_ (by first | exact Nat.le_refl _ | simp) _)⟩
      first
        | rfl
        | (simp [refEq, *]; done)
        | (simp [refEq, *]; omega)
        | (simp [refEq, *]; intros; omega)
        | (simp_all [refEq]; done)
set_option maxRecDepth 100000 in
set_option maxHeartbeats 8000000 in
theorem fields_10_false (k : Nat) (a0_0 a0_1 a0_2 a0_3 a0_4 : Int) (a0_5 a0_6 a0_7 a0_8 : ByteArray) (a0_9 : Int) (r : Bool) (w : World) (hk : a0_0 = 10) (h : trammelref1_fields.f k a0_0 a0_1 a0_2 a0_3 a0_4 a0_5 a0_6 a0_7 a0_8 a0_9 false = some r) :
    Calls Tryd.prog 74 #[.agg #[.int .i64 a0_0, .int .i64 a0_1, .int .i64 a0_2, .int .i64 a0_3, .int .i64 a0_4, .string a0_5, .string a0_6, .string a0_7, .string a0_8, .int .i64 a0_9], .bool false] w fun e w' => e = .returned (.bool r) ∧ Below w.heap.size w w' := by
  have hu45 := Tryd.underlying45
  subst hk
  have hy : refY ⟨10, a0_1, a0_2, a0_3, a0_4, a0_5, a0_6, a0_7, a0_8, a0_9⟩ false = (⟨10, a0_1, a0_2, a0_3, a0_4, (⟨#[]⟩ : ByteArray), (⟨#[]⟩ : ByteArray), (⟨#[]⟩ : ByteArray), (⟨#[]⟩ : ByteArray), a0_9⟩ : S45) := by rfl
  unfold trammelref1_fields.f at h
  dsimp only at h
  rw [hy] at h
  replace h := Option.bind_eq_some_iff.mp h
  obtain ⟨c, hc, h⟩ := h
  have hc3 := refKids_is hc
  replace hc3 : c = 3 := hc3.trans (by decide)
  subst hc3
  have HK := Aside0.mk hc
  clear hc hy
  rw [if_neg (by decide), Option.bind_some, if_pos rfl] at h
  dsimp only at h
  obtain rfl := Option.some.inj h
  clear h
  go_enter Tryd.func74, Tryd.ntmps74
  go_wp2_with (go_at_call 63; (with_reducible refine (trammelref1_kids.calls k _ _ _ HK.out).mono ?_); rintro e w' ⟨rfl, ⟨nd, rfl⟩⟩)
  all_goals
    go_ret
    clear HK hu45
    refine ⟨?_, by repeat (first | exact Below.refl _ _ | apply pw_below_drewN | refine below_set ?_ (Nat.le_succ _) | refine Below.alloc ?_ (by first | exact Nat.le_refl _ | simp) _)⟩
    first
      | rfl
      | (simp [refEq, *]; done)
      | (simp [refEq, *]; omega)
      | (simp [refEq, *]; intros; omega)
      | (simp_all [refEq]; done)
set_option maxRecDepth 100000 in
set_option maxHeartbeats 8000000 in
theorem fields_10_true (k : Nat) (a0_0 a0_1 a0_2 a0_3 a0_4 : Int) (a0_5 a0_6 a0_7 a0_8 : ByteArray) (a0_9 : Int) (r : Bool) (w : World) (hk : a0_0 = 10) (h : trammelref1_fields.f k a0_0 a0_1 a0_2 a0_3 a0_4 a0_5 a0_6 a0_7 a0_8 a0_9 true = some r) :
    Calls Tryd.prog 74 #[.agg #[.int .i64 a0_0, .int .i64 a0_1, .int .i64 a0_2, .int .i64 a0_3, .int .i64 a0_4, .string a0_5, .string a0_6, .string a0_7, .string a0_8, .int .i64 a0_9], .bool true] w fun e w' => e = .returned (.bool r) ∧ Below w.heap.size w w' := by
  have hu45 := Tryd.underlying45
  subst hk
  have hy : refY ⟨10, a0_1, a0_2, a0_3, a0_4, a0_5, a0_6, a0_7, a0_8, a0_9⟩ true = (⟨10, a0_1, a0_2, a0_3, 0, a0_5, (⟨#[]⟩ : ByteArray), (⟨#[]⟩ : ByteArray), (⟨#[]⟩ : ByteArray), a0_9⟩ : S45) := by rfl
  unfold trammelref1_fields.f at h
  dsimp only at h
  rw [hy] at h
  replace h := Option.bind_eq_some_iff.mp h
  obtain ⟨c, hc, h⟩ := h
  have hc3 := refKids_is hc
  replace hc3 : c = 3 := hc3.trans (by decide)
  subst hc3
  have HK := Aside0.mk hc
  clear hc hy
  replace h := Option.bind_eq_some_iff.mp h
  obtain ⟨⟨ok, z0, z1, z2, z3, z4, z5, z6, z7, z8, z9⟩, hz, h⟩ := h
  rw [if_pos rfl] at hz
  have HZ := Aside0.mk (show trammelref1_bound.f k 10 a0_1 a0_2 a0_3 a0_4 a0_5 a0_6 a0_7 a0_8 a0_9 10 a0_1 a0_2 a0_3 0 a0_5 (⟨#[]⟩ : ByteArray) (⟨#[]⟩ : ByteArray) (⟨#[]⟩ : ByteArray) a0_9 = some (ok, z0, z1, z2, z3, z4, z5, z6, z7, z8, z9) from hz)
  clear hz
  dsimp only at h
  cases ok
  case false =>
    rw [if_neg (by decide)] at h
    obtain rfl := Option.some.inj h
    clear h
    go_enter Tryd.func74, Tryd.ntmps74
    go_wp2_with (first | (go_at_call 63; (with_reducible refine (trammelref1_kids.calls k _ _ _ HK.out).mono ?_); rintro e w' ⟨rfl, ⟨nd, rfl⟩⟩) | (go_at_call 95; refine (trammelref1_bound.calls k 10 a0_1 a0_2 a0_3 a0_4 a0_5 a0_6 a0_7 a0_8 a0_9 (w.heap.size + 1) 10 a0_1 a0_2 a0_3 0 a0_5 (⟨#[]⟩ : ByteArray) (⟨#[]⟩ : ByteArray) (⟨#[]⟩ : ByteArray) a0_9 false z0 z1 z2 z3 z4 z5 z6 z7 z8 z9 w _ ⟨(blk_put (cs' := #[.int .i64 10, .int .i64 a0_1, .int .i64 a0_2, .int .i64 a0_3, .int .i64 0, .string a0_5, .string (⟨#[]⟩ : ByteArray), .string (⟨#[]⟩ : ByteArray), .string (⟨#[]⟩ : ByteArray), .int .i64 a0_9]) (blk_put (cs' := #[.int .i64 10, .int .i64 a0_1, .int .i64 a0_2, .int .i64 a0_3, .int .i64 0, .string (⟨#[]⟩ : ByteArray), .string (⟨#[]⟩ : ByteArray), .string (⟨#[]⟩ : ByteArray), .string (⟨#[]⟩ : ByteArray), .int .i64 a0_9]) (blk_put (cs' := #[.int .i64 10, .int .i64 a0_1, .int .i64 a0_2, .int .i64 0, .int .i64 0, .string (⟨#[]⟩ : ByteArray), .string (⟨#[]⟩ : ByteArray), .string (⟨#[]⟩ : ByteArray), .string (⟨#[]⟩ : ByteArray), .int .i64 a0_9]) (blk_put (cs' := #[.int .i64 10, .int .i64 a0_1, .int .i64 0, .int .i64 0, .int .i64 0, .string (⟨#[]⟩ : ByteArray), .string (⟨#[]⟩ : ByteArray), .string (⟨#[]⟩ : ByteArray), .string (⟨#[]⟩ : ByteArray), .int .i64 a0_9]) (show (((w.alloc (.cells #[.int .i64 10, .int .i64 a0_1, .int .i64 a0_2, .int .i64 a0_3, .int .i64 a0_4, .string a0_5, .string a0_6, .string a0_7, .string a0_8, .int .i64 a0_9] 45)).alloc (.cells #[.int .i64 10, .int .i64 0, .int .i64 0, .int .i64 0, .int .i64 0, .string (⟨#[]⟩ : ByteArray), .string (⟨#[]⟩ : ByteArray), .string (⟨#[]⟩ : ByteArray), .string (⟨#[]⟩ : ByteArray), .int .i64 a0_9] 45)).drewN nd).heap[w.heap.size + 1]? = some (.cells #[.int .i64 10, .int .i64 0, .int .i64 0, .int .i64 0, .int .i64 0, .string (⟨#[]⟩ : ByteArray), .string (⟨#[]⟩ : ByteArray), .string (⟨#[]⟩ : ByteArray), .string (⟨#[]⟩ : ByteArray), .int .i64 a0_9] 45 (0, 0)) from blk_drewN (by have h_ := blk_new (w.alloc (.cells #[.int .i64 10, .int .i64 a0_1, .int .i64 a0_2, .int .i64 a0_3, .int .i64 a0_4, .string a0_5, .string a0_6, .string a0_7, .string a0_8, .int .i64 a0_9] 45)) (.cells #[.int .i64 10, .int .i64 0, .int .i64 0, .int .i64 0, .int .i64 0, .string (⟨#[]⟩ : ByteArray), .string (⟨#[]⟩ : ByteArray), .string (⟨#[]⟩ : ByteArray), .string (⟨#[]⟩ : ByteArray), .int .i64 a0_9] 45); rwa [show (w.alloc (.cells #[.int .i64 10, .int .i64 a0_1, .int .i64 a0_2, .int .i64 a0_3, .int .i64 a0_4, .string a0_5, .string a0_6, .string a0_7, .string a0_8, .int .i64 a0_9] 45)).heap.size = w.heap.size + 1 from by simp] at h_) nd) 1 (.int .i64 a0_1) rfl) 2 (.int .i64 a0_2) rfl) 3 (.int .i64 a0_3) rfl) 5 (.string a0_5) rfl), Nat.le_succ _⟩ (by repeat (first | exact Below.refl _ _ | apply pw_below_drewN | refine below_set ?_ (Nat.le_succ _) | refine Below.alloc ?_ (by first | exact Nat.le_refl _ | simp) _)) HZ.out).mono ?_; rintro e w2 ⟨rfl, hI2, hB2, hK2⟩; have hx2 := blk_keep hK2 (blk_far (p := ⟨w.heap.size + 1, 5, none⟩) (blk_far (p := ⟨w.heap.size + 1, 3, none⟩) (blk_far (p := ⟨w.heap.size + 1, 2, none⟩) (blk_far (p := ⟨w.heap.size + 1, 1, none⟩) (show (((w.alloc (.cells #[.int .i64 10, .int .i64 a0_1, .int .i64 a0_2, .int .i64 a0_3, .int .i64 a0_4, .string a0_5, .string a0_6, .string a0_7, .string a0_8, .int .i64 a0_9] 45)).alloc (.cells #[.int .i64 10, .int .i64 0, .int .i64 0, .int .i64 0, .int .i64 0, .string (⟨#[]⟩ : ByteArray), .string (⟨#[]⟩ : ByteArray), .string (⟨#[]⟩ : ByteArray), .string (⟨#[]⟩ : ByteArray), .int .i64 a0_9] 45)).drewN nd).heap[w.heap.size]? = some (.cells #[.int .i64 10, .int .i64 a0_1, .int .i64 a0_2, .int .i64 a0_3, .int .i64 a0_4, .string a0_5, .string a0_6, .string a0_7, .string a0_8, .int .i64 a0_9] 45 (0, 0)) from blk_drewN (blk_alloc (blk_new w _) _) nd) (Nat.ne_of_lt (Nat.lt_succ_self _)) (.int .i64 a0_1)) (Nat.ne_of_lt (Nat.lt_succ_self _)) (.int .i64 a0_2)) (Nat.ne_of_lt (Nat.lt_succ_self _)) (.int .i64 a0_3)) (Nat.ne_of_lt (Nat.lt_succ_self _)) (.string a0_5)) (Nat.ne_of_lt (Nat.lt_succ_self _)); have hy2 := hI2.1; have hx2_0 : w2.cell? ⟨w.heap.size, 0, none⟩ = some (.int .i64 10) := (blk_cell hx2 0).trans rfl; have hy2_0 : w2.cell? ⟨w.heap.size + 1, 0, none⟩ = some (.int .i64 z0) := (blk_cell hy2 0).trans rfl; have hx2_1 : w2.cell? ⟨w.heap.size, 1, none⟩ = some (.int .i64 a0_1) := (blk_cell hx2 1).trans rfl; have hy2_1 : w2.cell? ⟨w.heap.size + 1, 1, none⟩ = some (.int .i64 z1) := (blk_cell hy2 1).trans rfl; have hx2_2 : w2.cell? ⟨w.heap.size, 2, none⟩ = some (.int .i64 a0_2) := (blk_cell hx2 2).trans rfl; have hy2_2 : w2.cell? ⟨w.heap.size + 1, 2, none⟩ = some (.int .i64 z2) := (blk_cell hy2 2).trans rfl; have hx2_3 : w2.cell? ⟨w.heap.size, 3, none⟩ = some (.int .i64 a0_3) := (blk_cell hx2 3).trans rfl; have hy2_3 : w2.cell? ⟨w.heap.size + 1, 3, none⟩ = some (.int .i64 z3) := (blk_cell hy2 3).trans rfl; have hx2_4 : w2.cell? ⟨w.heap.size, 4, none⟩ = some (.int .i64 a0_4) := (blk_cell hx2 4).trans rfl; have hy2_4 : w2.cell? ⟨w.heap.size + 1, 4, none⟩ = some (.int .i64 z4) := (blk_cell hy2 4).trans rfl; have hx2_5 : w2.cell? ⟨w.heap.size, 5, none⟩ = some (.string a0_5) := (blk_cell hx2 5).trans rfl; have hy2_5 : w2.cell? ⟨w.heap.size + 1, 5, none⟩ = some (.string z5) := (blk_cell hy2 5).trans rfl; have hx2_6 : w2.cell? ⟨w.heap.size, 6, none⟩ = some (.string a0_6) := (blk_cell hx2 6).trans rfl; have hy2_6 : w2.cell? ⟨w.heap.size + 1, 6, none⟩ = some (.string z6) := (blk_cell hy2 6).trans rfl; have hx2_7 : w2.cell? ⟨w.heap.size, 7, none⟩ = some (.string a0_7) := (blk_cell hx2 7).trans rfl; have hy2_7 : w2.cell? ⟨w.heap.size + 1, 7, none⟩ = some (.string z7) := (blk_cell hy2 7).trans rfl; have hx2_8 : w2.cell? ⟨w.heap.size, 8, none⟩ = some (.string a0_8) := (blk_cell hx2 8).trans rfl; have hy2_8 : w2.cell? ⟨w.heap.size + 1, 8, none⟩ = some (.string z8) := (blk_cell hy2 8).trans rfl; have hx2_9 : w2.cell? ⟨w.heap.size, 9, none⟩ = some (.int .i64 a0_9) := (blk_cell hx2 9).trans rfl; have hy2_9 : w2.cell? ⟨w.heap.size + 1, 9, none⟩ = some (.int .i64 z9) := (blk_cell hy2 9).trans rfl; have HB2 := Aside0.mk hB2; clear hx2 hy2 hI2 hB2 hK2))
    all_goals
      go_ret
      clear HK hu45
      refine ⟨?_, by repeat (first | exact HB2.out | exact Below.refl _ _ | apply pw_below_drewN | refine below_set ?_ (Nat.le_succ _) | refine Below.alloc ?_ (by first | exact Nat.le_refl _ | simp) _)⟩
      first
        | rfl
        | (simp [refEq, *]; done)
        | (simp [refEq, *]; omega)
        | (simp [refEq, *]; intros; omega)
        | (simp_all [refEq]; done)
  case true =>
    rw [if_pos rfl] at h
    obtain rfl := Option.some.inj h
    clear h
    go_enter Tryd.func74, Tryd.ntmps74
    go_wp2_with (first | (go_at_call 63; (with_reducible refine (trammelref1_kids.calls k _ _ _ HK.out).mono ?_); rintro e w' ⟨rfl, ⟨nd, rfl⟩⟩) | (go_at_call 95; refine (trammelref1_bound.calls k 10 a0_1 a0_2 a0_3 a0_4 a0_5 a0_6 a0_7 a0_8 a0_9 (w.heap.size + 1) 10 a0_1 a0_2 a0_3 0 a0_5 (⟨#[]⟩ : ByteArray) (⟨#[]⟩ : ByteArray) (⟨#[]⟩ : ByteArray) a0_9 true z0 z1 z2 z3 z4 z5 z6 z7 z8 z9 w _ ⟨(blk_put (cs' := #[.int .i64 10, .int .i64 a0_1, .int .i64 a0_2, .int .i64 a0_3, .int .i64 0, .string a0_5, .string (⟨#[]⟩ : ByteArray), .string (⟨#[]⟩ : ByteArray), .string (⟨#[]⟩ : ByteArray), .int .i64 a0_9]) (blk_put (cs' := #[.int .i64 10, .int .i64 a0_1, .int .i64 a0_2, .int .i64 a0_3, .int .i64 0, .string (⟨#[]⟩ : ByteArray), .string (⟨#[]⟩ : ByteArray), .string (⟨#[]⟩ : ByteArray), .string (⟨#[]⟩ : ByteArray), .int .i64 a0_9]) (blk_put (cs' := #[.int .i64 10, .int .i64 a0_1, .int .i64 a0_2, .int .i64 0, .int .i64 0, .string (⟨#[]⟩ : ByteArray), .string (⟨#[]⟩ : ByteArray), .string (⟨#[]⟩ : ByteArray), .string (⟨#[]⟩ : ByteArray), .int .i64 a0_9]) (blk_put (cs' := #[.int .i64 10, .int .i64 a0_1, .int .i64 0, .int .i64 0, .int .i64 0, .string (⟨#[]⟩ : ByteArray), .string (⟨#[]⟩ : ByteArray), .string (⟨#[]⟩ : ByteArray), .string (⟨#[]⟩ : ByteArray), .int .i64 a0_9]) (show (((w.alloc (.cells #[.int .i64 10, .int .i64 a0_1, .int .i64 a0_2, .int .i64 a0_3, .int .i64 a0_4, .string a0_5, .string a0_6, .string a0_7, .string a0_8, .int .i64 a0_9] 45)).alloc (.cells #[.int .i64 10, .int .i64 0, .int .i64 0, .int .i64 0, .int .i64 0, .string (⟨#[]⟩ : ByteArray), .string (⟨#[]⟩ : ByteArray), .string (⟨#[]⟩ : ByteArray), .string (⟨#[]⟩ : ByteArray), .int .i64 a0_9] 45)).drewN nd).heap[w.heap.size + 1]? = some (.cells #[.int .i64 10, .int .i64 0, .int .i64 0, .int .i64 0, .int .i64 0, .string (⟨#[]⟩ : ByteArray), .string (⟨#[]⟩ : ByteArray), .string (⟨#[]⟩ : ByteArray), .string (⟨#[]⟩ : ByteArray), .int .i64 a0_9] 45 (0, 0)) from blk_drewN (by have h_ := blk_new (w.alloc (.cells #[.int .i64 10, .int .i64 a0_1, .int .i64 a0_2, .int .i64 a0_3, .int .i64 a0_4, .string a0_5, .string a0_6, .string a0_7, .string a0_8, .int .i64 a0_9] 45)) (.cells #[.int .i64 10, .int .i64 0, .int .i64 0, .int .i64 0, .int .i64 0, .string (⟨#[]⟩ : ByteArray), .string (⟨#[]⟩ : ByteArray), .string (⟨#[]⟩ : ByteArray), .string (⟨#[]⟩ : ByteArray), .int .i64 a0_9] 45); rwa [show (w.alloc (.cells #[.int .i64 10, .int .i64 a0_1, .int .i64 a0_2, .int .i64 a0_3, .int .i64 a0_4, .string a0_5, .string a0_6, .string a0_7, .string a0_8, .int .i64 a0_9] 45)).heap.size = w.heap.size + 1 from by simp] at h_) nd) 1 (.int .i64 a0_1) rfl) 2 (.int .i64 a0_2) rfl) 3 (.int .i64 a0_3) rfl) 5 (.string a0_5) rfl), Nat.le_succ _⟩ (by repeat (first | exact Below.refl _ _ | apply pw_below_drewN | refine below_set ?_ (Nat.le_succ _) | refine Below.alloc ?_ (by first | exact Nat.le_refl _ | simp) _)) HZ.out).mono ?_; rintro e w2 ⟨rfl, hI2, hB2, hK2⟩; have hx2 := blk_keep hK2 (blk_far (p := ⟨w.heap.size + 1, 5, none⟩) (blk_far (p := ⟨w.heap.size + 1, 3, none⟩) (blk_far (p := ⟨w.heap.size + 1, 2, none⟩) (blk_far (p := ⟨w.heap.size + 1, 1, none⟩) (show (((w.alloc (.cells #[.int .i64 10, .int .i64 a0_1, .int .i64 a0_2, .int .i64 a0_3, .int .i64 a0_4, .string a0_5, .string a0_6, .string a0_7, .string a0_8, .int .i64 a0_9] 45)).alloc (.cells #[.int .i64 10, .int .i64 0, .int .i64 0, .int .i64 0, .int .i64 0, .string (⟨#[]⟩ : ByteArray), .string (⟨#[]⟩ : ByteArray), .string (⟨#[]⟩ : ByteArray), .string (⟨#[]⟩ : ByteArray), .int .i64 a0_9] 45)).drewN nd).heap[w.heap.size]? = some (.cells #[.int .i64 10, .int .i64 a0_1, .int .i64 a0_2, .int .i64 a0_3, .int .i64 a0_4, .string a0_5, .string a0_6, .string a0_7, .string a0_8, .int .i64 a0_9] 45 (0, 0)) from blk_drewN (blk_alloc (blk_new w _) _) nd) (Nat.ne_of_lt (Nat.lt_succ_self _)) (.int .i64 a0_1)) (Nat.ne_of_lt (Nat.lt_succ_self _)) (.int .i64 a0_2)) (Nat.ne_of_lt (Nat.lt_succ_self _)) (.int .i64 a0_3)) (Nat.ne_of_lt (Nat.lt_succ_self _)) (.string a0_5)) (Nat.ne_of_lt (Nat.lt_succ_self _)); have hy2 := hI2.1; have hx2_0 : w2.cell? ⟨w.heap.size, 0, none⟩ = some (.int .i64 10) := (blk_cell hx2 0).trans rfl; have hy2_0 : w2.cell? ⟨w.heap.size + 1, 0, none⟩ = some (.int .i64 z0) := (blk_cell hy2 0).trans rfl; have hx2_1 : w2.cell? ⟨w.heap.size, 1, none⟩ = some (.int .i64 a0_1) := (blk_cell hx2 1).trans rfl; have hy2_1 : w2.cell? ⟨w.heap.size + 1, 1, none⟩ = some (.int .i64 z1) := (blk_cell hy2 1).trans rfl; have hx2_2 : w2.cell? ⟨w.heap.size, 2, none⟩ = some (.int .i64 a0_2) := (blk_cell hx2 2).trans rfl; have hy2_2 : w2.cell? ⟨w.heap.size + 1, 2, none⟩ = some (.int .i64 z2) := (blk_cell hy2 2).trans rfl; have hx2_3 : w2.cell? ⟨w.heap.size, 3, none⟩ = some (.int .i64 a0_3) := (blk_cell hx2 3).trans rfl; have hy2_3 : w2.cell? ⟨w.heap.size + 1, 3, none⟩ = some (.int .i64 z3) := (blk_cell hy2 3).trans rfl; have hx2_4 : w2.cell? ⟨w.heap.size, 4, none⟩ = some (.int .i64 a0_4) := (blk_cell hx2 4).trans rfl; have hy2_4 : w2.cell? ⟨w.heap.size + 1, 4, none⟩ = some (.int .i64 z4) := (blk_cell hy2 4).trans rfl; have hx2_5 : w2.cell? ⟨w.heap.size, 5, none⟩ = some (.string a0_5) := (blk_cell hx2 5).trans rfl; have hy2_5 : w2.cell? ⟨w.heap.size + 1, 5, none⟩ = some (.string z5) := (blk_cell hy2 5).trans rfl; have hx2_6 : w2.cell? ⟨w.heap.size, 6, none⟩ = some (.string a0_6) := (blk_cell hx2 6).trans rfl; have hy2_6 : w2.cell? ⟨w.heap.size + 1, 6, none⟩ = some (.string z6) := (blk_cell hy2 6).trans rfl; have hx2_7 : w2.cell? ⟨w.heap.size, 7, none⟩ = some (.string a0_7) := (blk_cell hx2 7).trans rfl; have hy2_7 : w2.cell? ⟨w.heap.size + 1, 7, none⟩ = some (.string z7) := (blk_cell hy2 7).trans rfl; have hx2_8 : w2.cell? ⟨w.heap.size, 8, none⟩ = some (.string a0_8) := (blk_cell hx2 8).trans rfl; have hy2_8 : w2.cell? ⟨w.heap.size + 1, 8, none⟩ = some (.string z8) := (blk_cell hy2 8).trans rfl; have hx2_9 : w2.cell? ⟨w.heap.size, 9, none⟩ = some (.int .i64 a0_9) := (blk_cell hx2 9).trans rfl; have hy2_9 : w2.cell? ⟨w.heap.size + 1, 9, none⟩ = some (.int .i64 z9) := (blk_cell hy2 9).trans rfl; have HB2 := Aside0.mk hB2; clear hx2 hy2 hI2 hB2 hK2))
    all_goals
      go_ret
      clear HK hu45
      refine ⟨?_, by repeat (first | exact HB2.out | exact Below.refl _ _ | apply pw_below_drewN | refine below_set ?_ (Nat.le_succ _) | refine Below.alloc ?_ (by first | exact Nat.le_refl _ | simp) _)⟩
      first
        | rfl
        | (simp [refEq, *]; done)
        | (simp [refEq, *]; omega)
        | (simp [refEq, *]; intros; omega)
        | (simp_all [refEq]; done)
set_option maxRecDepth 100000 in
set_option maxHeartbeats 8000000 in
theorem fields_N_false (k : Nat) (a0_0 a0_1 a0_2 a0_3 a0_4 : Int) (a0_5 a0_6 a0_7 a0_8 : ByteArray) (a0_9 : Int) (r : Bool) (w : World) (n0 : ¬ a0_0 = 0) (n1 : ¬ a0_0 = 1) (n2 : ¬ a0_0 = 2) (n3 : ¬ a0_0 = 3) (n4 : ¬ a0_0 = 4) (n5 : ¬ a0_0 = 5) (n6 : ¬ a0_0 = 6) (n7 : ¬ a0_0 = 7) (n8 : ¬ a0_0 = 8) (n9 : ¬ a0_0 = 9) (n10 : ¬ a0_0 = 10) (h : trammelref1_fields.f k a0_0 a0_1 a0_2 a0_3 a0_4 a0_5 a0_6 a0_7 a0_8 a0_9 false = some r) :
    Calls Tryd.prog 74 #[.agg #[.int .i64 a0_0, .int .i64 a0_1, .int .i64 a0_2, .int .i64 a0_3, .int .i64 a0_4, .string a0_5, .string a0_6, .string a0_7, .string a0_8, .int .i64 a0_9], .bool false] w fun e w' => e = .returned (.bool r) ∧ Below w.heap.size w w' := by
  have hu45 := Tryd.underlying45
  have b0 : (a0_0 == 0) = false := beq_eq_false_iff_ne.mpr n0
  have b1 : (a0_0 == 1) = false := beq_eq_false_iff_ne.mpr n1
  have b2 : (a0_0 == 2) = false := beq_eq_false_iff_ne.mpr n2
  have b3 : (a0_0 == 3) = false := beq_eq_false_iff_ne.mpr n3
  have b4 : (a0_0 == 4) = false := beq_eq_false_iff_ne.mpr n4
  have b5 : (a0_0 == 5) = false := beq_eq_false_iff_ne.mpr n5
  have b6 : (a0_0 == 6) = false := beq_eq_false_iff_ne.mpr n6
  have b7 : (a0_0 == 7) = false := beq_eq_false_iff_ne.mpr n7
  have b8 : (a0_0 == 8) = false := beq_eq_false_iff_ne.mpr n8
  have b9 : (a0_0 == 9) = false := beq_eq_false_iff_ne.mpr n9
  have b10 : (a0_0 == 10) = false := beq_eq_false_iff_ne.mpr n10
  have hy : refY ⟨a0_0, a0_1, a0_2, a0_3, a0_4, a0_5, a0_6, a0_7, a0_8, a0_9⟩ false = (⟨a0_0, 0, 0, 0, 0, (⟨#[]⟩ : ByteArray), (⟨#[]⟩ : ByteArray), (⟨#[]⟩ : ByteArray), (⟨#[]⟩ : ByteArray), a0_9⟩ : S45) := by simp [refY, kidsN, n0, n1, n2, n3, n4, n5, n6, n7, n8, n9, n10]
  unfold trammelref1_fields.f at h
  dsimp only at h
  rw [hy] at h
  replace h := Option.bind_eq_some_iff.mp h
  obtain ⟨c, hc, h⟩ := h
  have hc3 := refKids_is hc
  replace hc3 : c = -1 := hc3.trans (by rw [if_neg (by omega)])
  subst hc3
  have HK := Aside0.mk hc
  clear hc hy
  rw [if_neg (by decide), Option.bind_some, if_pos rfl] at h
  dsimp only at h
  obtain rfl := Option.some.inj h
  clear h
  go_enter Tryd.func74, Tryd.ntmps74
  go_wp2_with (go_at_call 63; (with_reducible refine (trammelref1_kids.calls k _ _ _ HK.out).mono ?_); rintro e w' ⟨rfl, ⟨nd, rfl⟩⟩)
  all_goals
    go_ret
    clear HK hu45
    refine ⟨?_, by repeat (first | exact Below.refl _ _ | apply pw_below_drewN | refine below_set ?_ (Nat.le_succ _) | refine Below.alloc ?_ (by first | exact Nat.le_refl _ | simp) _)⟩
    first
      | rfl
      | (simp [refEq, *]; done)
      | (simp [refEq, *]; omega)
      | (simp [refEq, *]; intros; omega)
      | (simp_all [refEq]; done)
set_option maxRecDepth 100000 in
set_option maxHeartbeats 8000000 in
theorem fields_N_true (k : Nat) (a0_0 a0_1 a0_2 a0_3 a0_4 : Int) (a0_5 a0_6 a0_7 a0_8 : ByteArray) (a0_9 : Int) (r : Bool) (w : World) (n0 : ¬ a0_0 = 0) (n1 : ¬ a0_0 = 1) (n2 : ¬ a0_0 = 2) (n3 : ¬ a0_0 = 3) (n4 : ¬ a0_0 = 4) (n5 : ¬ a0_0 = 5) (n6 : ¬ a0_0 = 6) (n7 : ¬ a0_0 = 7) (n8 : ¬ a0_0 = 8) (n9 : ¬ a0_0 = 9) (n10 : ¬ a0_0 = 10) (h : trammelref1_fields.f k a0_0 a0_1 a0_2 a0_3 a0_4 a0_5 a0_6 a0_7 a0_8 a0_9 true = some r) :
    Calls Tryd.prog 74 #[.agg #[.int .i64 a0_0, .int .i64 a0_1, .int .i64 a0_2, .int .i64 a0_3, .int .i64 a0_4, .string a0_5, .string a0_6, .string a0_7, .string a0_8, .int .i64 a0_9], .bool true] w fun e w' => e = .returned (.bool r) ∧ Below w.heap.size w w' := by
  have hu45 := Tryd.underlying45
  have b0 : (a0_0 == 0) = false := beq_eq_false_iff_ne.mpr n0
  have b1 : (a0_0 == 1) = false := beq_eq_false_iff_ne.mpr n1
  have b2 : (a0_0 == 2) = false := beq_eq_false_iff_ne.mpr n2
  have b3 : (a0_0 == 3) = false := beq_eq_false_iff_ne.mpr n3
  have b4 : (a0_0 == 4) = false := beq_eq_false_iff_ne.mpr n4
  have b5 : (a0_0 == 5) = false := beq_eq_false_iff_ne.mpr n5
  have b6 : (a0_0 == 6) = false := beq_eq_false_iff_ne.mpr n6
  have b7 : (a0_0 == 7) = false := beq_eq_false_iff_ne.mpr n7
  have b8 : (a0_0 == 8) = false := beq_eq_false_iff_ne.mpr n8
  have b9 : (a0_0 == 9) = false := beq_eq_false_iff_ne.mpr n9
  have b10 : (a0_0 == 10) = false := beq_eq_false_iff_ne.mpr n10
  have hy : refY ⟨a0_0, a0_1, a0_2, a0_3, a0_4, a0_5, a0_6, a0_7, a0_8, a0_9⟩ true = (⟨a0_0, 0, 0, 0, 0, (⟨#[]⟩ : ByteArray), (⟨#[]⟩ : ByteArray), (⟨#[]⟩ : ByteArray), (⟨#[]⟩ : ByteArray), a0_9⟩ : S45) := by simp [refY, kidsN, n0, n1, n2, n3, n4, n5, n6, n7, n8, n9, n10]
  unfold trammelref1_fields.f at h
  dsimp only at h
  rw [hy] at h
  replace h := Option.bind_eq_some_iff.mp h
  obtain ⟨c, hc, h⟩ := h
  have hc3 := refKids_is hc
  replace hc3 : c = -1 := hc3.trans (by rw [if_neg (by omega)])
  subst hc3
  have HK := Aside0.mk hc
  clear hc hy
  replace h := Option.bind_eq_some_iff.mp h
  obtain ⟨⟨ok, z0, z1, z2, z3, z4, z5, z6, z7, z8, z9⟩, hz, h⟩ := h
  rw [if_pos rfl] at hz
  have HZ := Aside0.mk (show trammelref1_bound.f k a0_0 a0_1 a0_2 a0_3 a0_4 a0_5 a0_6 a0_7 a0_8 a0_9 a0_0 0 0 0 0 (⟨#[]⟩ : ByteArray) (⟨#[]⟩ : ByteArray) (⟨#[]⟩ : ByteArray) (⟨#[]⟩ : ByteArray) a0_9 = some (ok, z0, z1, z2, z3, z4, z5, z6, z7, z8, z9) from hz)
  clear hz
  dsimp only at h
  cases ok
  case false =>
    rw [if_neg (by decide)] at h
    obtain rfl := Option.some.inj h
    clear h
    go_enter Tryd.func74, Tryd.ntmps74
    go_wp2_with (first | (go_at_call 63; (with_reducible refine (trammelref1_kids.calls k _ _ _ HK.out).mono ?_); rintro e w' ⟨rfl, ⟨nd, rfl⟩⟩) | (go_at_call 95; refine (trammelref1_bound.calls k a0_0 a0_1 a0_2 a0_3 a0_4 a0_5 a0_6 a0_7 a0_8 a0_9 (w.heap.size + 1) a0_0 0 0 0 0 (⟨#[]⟩ : ByteArray) (⟨#[]⟩ : ByteArray) (⟨#[]⟩ : ByteArray) (⟨#[]⟩ : ByteArray) a0_9 false z0 z1 z2 z3 z4 z5 z6 z7 z8 z9 w _ ⟨(show (((w.alloc (.cells #[.int .i64 a0_0, .int .i64 a0_1, .int .i64 a0_2, .int .i64 a0_3, .int .i64 a0_4, .string a0_5, .string a0_6, .string a0_7, .string a0_8, .int .i64 a0_9] 45)).alloc (.cells #[.int .i64 a0_0, .int .i64 0, .int .i64 0, .int .i64 0, .int .i64 0, .string (⟨#[]⟩ : ByteArray), .string (⟨#[]⟩ : ByteArray), .string (⟨#[]⟩ : ByteArray), .string (⟨#[]⟩ : ByteArray), .int .i64 a0_9] 45)).drewN nd).heap[w.heap.size + 1]? = some (.cells #[.int .i64 a0_0, .int .i64 0, .int .i64 0, .int .i64 0, .int .i64 0, .string (⟨#[]⟩ : ByteArray), .string (⟨#[]⟩ : ByteArray), .string (⟨#[]⟩ : ByteArray), .string (⟨#[]⟩ : ByteArray), .int .i64 a0_9] 45 (0, 0)) from blk_drewN (by have h_ := blk_new (w.alloc (.cells #[.int .i64 a0_0, .int .i64 a0_1, .int .i64 a0_2, .int .i64 a0_3, .int .i64 a0_4, .string a0_5, .string a0_6, .string a0_7, .string a0_8, .int .i64 a0_9] 45)) (.cells #[.int .i64 a0_0, .int .i64 0, .int .i64 0, .int .i64 0, .int .i64 0, .string (⟨#[]⟩ : ByteArray), .string (⟨#[]⟩ : ByteArray), .string (⟨#[]⟩ : ByteArray), .string (⟨#[]⟩ : ByteArray), .int .i64 a0_9] 45); rwa [show (w.alloc (.cells #[.int .i64 a0_0, .int .i64 a0_1, .int .i64 a0_2, .int .i64 a0_3, .int .i64 a0_4, .string a0_5, .string a0_6, .string a0_7, .string a0_8, .int .i64 a0_9] 45)).heap.size = w.heap.size + 1 from by simp] at h_) nd), Nat.le_succ _⟩ (by repeat (first | exact Below.refl _ _ | apply pw_below_drewN | refine below_set ?_ (Nat.le_succ _) | refine Below.alloc ?_ (by first | exact Nat.le_refl _ | simp) _)) HZ.out).mono ?_; rintro e w2 ⟨rfl, hI2, hB2, hK2⟩; have hx2 := blk_keep hK2 (show (((w.alloc (.cells #[.int .i64 a0_0, .int .i64 a0_1, .int .i64 a0_2, .int .i64 a0_3, .int .i64 a0_4, .string a0_5, .string a0_6, .string a0_7, .string a0_8, .int .i64 a0_9] 45)).alloc (.cells #[.int .i64 a0_0, .int .i64 0, .int .i64 0, .int .i64 0, .int .i64 0, .string (⟨#[]⟩ : ByteArray), .string (⟨#[]⟩ : ByteArray), .string (⟨#[]⟩ : ByteArray), .string (⟨#[]⟩ : ByteArray), .int .i64 a0_9] 45)).drewN nd).heap[w.heap.size]? = some (.cells #[.int .i64 a0_0, .int .i64 a0_1, .int .i64 a0_2, .int .i64 a0_3, .int .i64 a0_4, .string a0_5, .string a0_6, .string a0_7, .string a0_8, .int .i64 a0_9] 45 (0, 0)) from blk_drewN (blk_alloc (blk_new w _) _) nd) (Nat.ne_of_lt (Nat.lt_succ_self _)); have hy2 := hI2.1; have hx2_0 : w2.cell? ⟨w.heap.size, 0, none⟩ = some (.int .i64 a0_0) := (blk_cell hx2 0).trans rfl; have hy2_0 : w2.cell? ⟨w.heap.size + 1, 0, none⟩ = some (.int .i64 z0) := (blk_cell hy2 0).trans rfl; have hx2_1 : w2.cell? ⟨w.heap.size, 1, none⟩ = some (.int .i64 a0_1) := (blk_cell hx2 1).trans rfl; have hy2_1 : w2.cell? ⟨w.heap.size + 1, 1, none⟩ = some (.int .i64 z1) := (blk_cell hy2 1).trans rfl; have hx2_2 : w2.cell? ⟨w.heap.size, 2, none⟩ = some (.int .i64 a0_2) := (blk_cell hx2 2).trans rfl; have hy2_2 : w2.cell? ⟨w.heap.size + 1, 2, none⟩ = some (.int .i64 z2) := (blk_cell hy2 2).trans rfl; have hx2_3 : w2.cell? ⟨w.heap.size, 3, none⟩ = some (.int .i64 a0_3) := (blk_cell hx2 3).trans rfl; have hy2_3 : w2.cell? ⟨w.heap.size + 1, 3, none⟩ = some (.int .i64 z3) := (blk_cell hy2 3).trans rfl; have hx2_4 : w2.cell? ⟨w.heap.size, 4, none⟩ = some (.int .i64 a0_4) := (blk_cell hx2 4).trans rfl; have hy2_4 : w2.cell? ⟨w.heap.size + 1, 4, none⟩ = some (.int .i64 z4) := (blk_cell hy2 4).trans rfl; have hx2_5 : w2.cell? ⟨w.heap.size, 5, none⟩ = some (.string a0_5) := (blk_cell hx2 5).trans rfl; have hy2_5 : w2.cell? ⟨w.heap.size + 1, 5, none⟩ = some (.string z5) := (blk_cell hy2 5).trans rfl; have hx2_6 : w2.cell? ⟨w.heap.size, 6, none⟩ = some (.string a0_6) := (blk_cell hx2 6).trans rfl; have hy2_6 : w2.cell? ⟨w.heap.size + 1, 6, none⟩ = some (.string z6) := (blk_cell hy2 6).trans rfl; have hx2_7 : w2.cell? ⟨w.heap.size, 7, none⟩ = some (.string a0_7) := (blk_cell hx2 7).trans rfl; have hy2_7 : w2.cell? ⟨w.heap.size + 1, 7, none⟩ = some (.string z7) := (blk_cell hy2 7).trans rfl; have hx2_8 : w2.cell? ⟨w.heap.size, 8, none⟩ = some (.string a0_8) := (blk_cell hx2 8).trans rfl; have hy2_8 : w2.cell? ⟨w.heap.size + 1, 8, none⟩ = some (.string z8) := (blk_cell hy2 8).trans rfl; have hx2_9 : w2.cell? ⟨w.heap.size, 9, none⟩ = some (.int .i64 a0_9) := (blk_cell hx2 9).trans rfl; have hy2_9 : w2.cell? ⟨w.heap.size + 1, 9, none⟩ = some (.int .i64 z9) := (blk_cell hy2 9).trans rfl; have HB2 := Aside0.mk hB2; clear hx2 hy2 hI2 hB2 hK2))
    all_goals
      go_ret
      clear HK hu45
      refine ⟨?_, by repeat (first | exact HB2.out | exact Below.refl _ _ | apply pw_below_drewN | refine below_set ?_ (Nat.le_succ _) | refine Below.alloc ?_ (by first | exact Nat.le_refl _ | simp) _)⟩
      first
        | rfl
        | (simp [refEq, *]; done)
        | (simp [refEq, *]; omega)
        | (simp [refEq, *]; intros; omega)
        | (simp_all [refEq]; done)
  case true =>
    rw [if_pos rfl] at h
    obtain rfl := Option.some.inj h
    clear h
    go_enter Tryd.func74, Tryd.ntmps74
    go_wp2_with (first | (go_at_call 63; (with_reducible refine (trammelref1_kids.calls k _ _ _ HK.out).mono ?_); rintro e w' ⟨rfl, ⟨nd, rfl⟩⟩) | (go_at_call 95; refine (trammelref1_bound.calls k a0_0 a0_1 a0_2 a0_3 a0_4 a0_5 a0_6 a0_7 a0_8 a0_9 (w.heap.size + 1) a0_0 0 0 0 0 (⟨#[]⟩ : ByteArray) (⟨#[]⟩ : ByteArray) (⟨#[]⟩ : ByteArray) (⟨#[]⟩ : ByteArray) a0_9 true z0 z1 z2 z3 z4 z5 z6 z7 z8 z9 w _ ⟨(show (((w.alloc (.cells #[.int .i64 a0_0, .int .i64 a0_1, .int .i64 a0_2, .int .i64 a0_3, .int .i64 a0_4, .string a0_5, .string a0_6, .string a0_7, .string a0_8, .int .i64 a0_9] 45)).alloc (.cells #[.int .i64 a0_0, .int .i64 0, .int .i64 0, .int .i64 0, .int .i64 0, .string (⟨#[]⟩ : ByteArray), .string (⟨#[]⟩ : ByteArray), .string (⟨#[]⟩ : ByteArray), .string (⟨#[]⟩ : ByteArray), .int .i64 a0_9] 45)).drewN nd).heap[w.heap.size + 1]? = some (.cells #[.int .i64 a0_0, .int .i64 0, .int .i64 0, .int .i64 0, .int .i64 0, .string (⟨#[]⟩ : ByteArray), .string (⟨#[]⟩ : ByteArray), .string (⟨#[]⟩ : ByteArray), .string (⟨#[]⟩ : ByteArray), .int .i64 a0_9] 45 (0, 0)) from blk_drewN (by have h_ := blk_new (w.alloc (.cells #[.int .i64 a0_0, .int .i64 a0_1, .int .i64 a0_2, .int .i64 a0_3, .int .i64 a0_4, .string a0_5, .string a0_6, .string a0_7, .string a0_8, .int .i64 a0_9] 45)) (.cells #[.int .i64 a0_0, .int .i64 0, .int .i64 0, .int .i64 0, .int .i64 0, .string (⟨#[]⟩ : ByteArray), .string (⟨#[]⟩ : ByteArray), .string (⟨#[]⟩ : ByteArray), .string (⟨#[]⟩ : ByteArray), .int .i64 a0_9] 45); rwa [show (w.alloc (.cells #[.int .i64 a0_0, .int .i64 a0_1, .int .i64 a0_2, .int .i64 a0_3, .int .i64 a0_4, .string a0_5, .string a0_6, .string a0_7, .string a0_8, .int .i64 a0_9] 45)).heap.size = w.heap.size + 1 from by simp] at h_) nd), Nat.le_succ _⟩ (by repeat (first | exact Below.refl _ _ | apply pw_below_drewN | refine below_set ?_ (Nat.le_succ _) | refine Below.alloc ?_ (by first | exact Nat.le_refl _ | simp) _)) HZ.out).mono ?_; rintro e w2 ⟨rfl, hI2, hB2, hK2⟩; have hx2 := blk_keep hK2 (show (((w.alloc (.cells #[.int .i64 a0_0, .int .i64 a0_1, .int .i64 a0_2, .int .i64 a0_3, .int .i64 a0_4, .string a0_5, .string a0_6, .string a0_7, .string a0_8, .int .i64 a0_9] 45)).alloc (.cells #[.int .i64 a0_0, .int .i64 0, .int .i64 0, .int .i64 0, .int .i64 0, .string (⟨#[]⟩ : ByteArray), .string (⟨#[]⟩ : ByteArray), .string (⟨#[]⟩ : ByteArray), .string (⟨#[]⟩ : ByteArray), .int .i64 a0_9] 45)).drewN nd).heap[w.heap.size]? = some (.cells #[.int .i64 a0_0, .int .i64 a0_1, .int .i64 a0_2, .int .i64 a0_3, .int .i64 a0_4, .string a0_5, .string a0_6, .string a0_7, .string a0_8, .int .i64 a0_9] 45 (0, 0)) from blk_drewN (blk_alloc (blk_new w _) _) nd) (Nat.ne_of_lt (Nat.lt_succ_self _)); have hy2 := hI2.1; have hx2_0 : w2.cell? ⟨w.heap.size, 0, none⟩ = some (.int .i64 a0_0) := (blk_cell hx2 0).trans rfl; have hy2_0 : w2.cell? ⟨w.heap.size + 1, 0, none⟩ = some (.int .i64 z0) := (blk_cell hy2 0).trans rfl; have hx2_1 : w2.cell? ⟨w.heap.size, 1, none⟩ = some (.int .i64 a0_1) := (blk_cell hx2 1).trans rfl; have hy2_1 : w2.cell? ⟨w.heap.size + 1, 1, none⟩ = some (.int .i64 z1) := (blk_cell hy2 1).trans rfl; have hx2_2 : w2.cell? ⟨w.heap.size, 2, none⟩ = some (.int .i64 a0_2) := (blk_cell hx2 2).trans rfl; have hy2_2 : w2.cell? ⟨w.heap.size + 1, 2, none⟩ = some (.int .i64 z2) := (blk_cell hy2 2).trans rfl; have hx2_3 : w2.cell? ⟨w.heap.size, 3, none⟩ = some (.int .i64 a0_3) := (blk_cell hx2 3).trans rfl; have hy2_3 : w2.cell? ⟨w.heap.size + 1, 3, none⟩ = some (.int .i64 z3) := (blk_cell hy2 3).trans rfl; have hx2_4 : w2.cell? ⟨w.heap.size, 4, none⟩ = some (.int .i64 a0_4) := (blk_cell hx2 4).trans rfl; have hy2_4 : w2.cell? ⟨w.heap.size + 1, 4, none⟩ = some (.int .i64 z4) := (blk_cell hy2 4).trans rfl; have hx2_5 : w2.cell? ⟨w.heap.size, 5, none⟩ = some (.string a0_5) := (blk_cell hx2 5).trans rfl; have hy2_5 : w2.cell? ⟨w.heap.size + 1, 5, none⟩ = some (.string z5) := (blk_cell hy2 5).trans rfl; have hx2_6 : w2.cell? ⟨w.heap.size, 6, none⟩ = some (.string a0_6) := (blk_cell hx2 6).trans rfl; have hy2_6 : w2.cell? ⟨w.heap.size + 1, 6, none⟩ = some (.string z6) := (blk_cell hy2 6).trans rfl; have hx2_7 : w2.cell? ⟨w.heap.size, 7, none⟩ = some (.string a0_7) := (blk_cell hx2 7).trans rfl; have hy2_7 : w2.cell? ⟨w.heap.size + 1, 7, none⟩ = some (.string z7) := (blk_cell hy2 7).trans rfl; have hx2_8 : w2.cell? ⟨w.heap.size, 8, none⟩ = some (.string a0_8) := (blk_cell hx2 8).trans rfl; have hy2_8 : w2.cell? ⟨w.heap.size + 1, 8, none⟩ = some (.string z8) := (blk_cell hy2 8).trans rfl; have hx2_9 : w2.cell? ⟨w.heap.size, 9, none⟩ = some (.int .i64 a0_9) := (blk_cell hx2 9).trans rfl; have hy2_9 : w2.cell? ⟨w.heap.size + 1, 9, none⟩ = some (.int .i64 z9) := (blk_cell hy2 9).trans rfl; have HB2 := Aside0.mk hB2; clear hx2 hy2 hI2 hB2 hK2))
    all_goals
      go_ret
      clear HK hu45
      refine ⟨?_, by repeat (first | exact HB2.out | exact Below.refl _ _ | apply pw_below_drewN | refine below_set ?_ (Nat.le_succ _) | refine Below.alloc ?_ (by first | exact Nat.le_refl _ | simp) _)⟩
      first
        | rfl
        | (simp [refEq, *]; done)
        | (simp [refEq, *]; omega)
        | (simp [refEq, *]; intros; omega)
        | (simp_all [refEq]; done)
theorem trammelref1_fields.calls (k : Nat) (a0_0 a0_1 a0_2 a0_3 a0_4 : Int) (a0_5 a0_6 a0_7 a0_8 : ByteArray) (a0_9 : Int) (a1 : Bool) (r : Bool) (w : World) (h : trammelref1_fields.f k a0_0 a0_1 a0_2 a0_3 a0_4 a0_5 a0_6 a0_7 a0_8 a0_9 a1 = some r) :
    Calls Tryd.prog 74 #[.agg #[.int .i64 a0_0, .int .i64 a0_1, .int .i64 a0_2, .int .i64 a0_3, .int .i64 a0_4, .string a0_5, .string a0_6, .string a0_7, .string a0_8, .int .i64 a0_9], .bool a1] w fun e w' => e = .returned (.bool r) ∧ Below w.heap.size w w' := by
  have hcs : a0_0 = 0 ∨ a0_0 = 1 ∨ a0_0 = 2 ∨ a0_0 = 3 ∨ a0_0 = 4 ∨ a0_0 = 5 ∨ a0_0 = 6 ∨ a0_0 = 7 ∨ a0_0 = 8 ∨ a0_0 = 9 ∨ a0_0 = 10 ∨ (¬ a0_0 = 0 ∧ ¬ a0_0 = 1 ∧ ¬ a0_0 = 2 ∧ ¬ a0_0 = 3 ∧ ¬ a0_0 = 4 ∧ ¬ a0_0 = 5 ∧ ¬ a0_0 = 6 ∧ ¬ a0_0 = 7 ∧ ¬ a0_0 = 8 ∧ ¬ a0_0 = 9 ∧ ¬ a0_0 = 10) := by omega
  rcases hcs with hk | hk | hk | hk | hk | hk | hk | hk | hk | hk | hk | ⟨n0, n1, n2, n3, n4, n5, n6, n7, n8, n9, n10⟩ <;> cases a1
  · exact fields_0_false k a0_0 a0_1 a0_2 a0_3 a0_4 a0_5 a0_6 a0_7 a0_8 a0_9 r w hk h
  · exact fields_0_true k a0_0 a0_1 a0_2 a0_3 a0_4 a0_5 a0_6 a0_7 a0_8 a0_9 r w hk h
  · exact fields_1_false k a0_0 a0_1 a0_2 a0_3 a0_4 a0_5 a0_6 a0_7 a0_8 a0_9 r w hk h
  · exact fields_1_true k a0_0 a0_1 a0_2 a0_3 a0_4 a0_5 a0_6 a0_7 a0_8 a0_9 r w hk h
  · exact fields_2_false k a0_0 a0_1 a0_2 a0_3 a0_4 a0_5 a0_6 a0_7 a0_8 a0_9 r w hk h
  · exact fields_2_true k a0_0 a0_1 a0_2 a0_3 a0_4 a0_5 a0_6 a0_7 a0_8 a0_9 r w hk h
  · exact fields_3_false k a0_0 a0_1 a0_2 a0_3 a0_4 a0_5 a0_6 a0_7 a0_8 a0_9 r w hk h
  · exact fields_3_true k a0_0 a0_1 a0_2 a0_3 a0_4 a0_5 a0_6 a0_7 a0_8 a0_9 r w hk h
  · exact fields_4_false k a0_0 a0_1 a0_2 a0_3 a0_4 a0_5 a0_6 a0_7 a0_8 a0_9 r w hk h
  · exact fields_4_true k a0_0 a0_1 a0_2 a0_3 a0_4 a0_5 a0_6 a0_7 a0_8 a0_9 r w hk h
  · exact fields_5_false k a0_0 a0_1 a0_2 a0_3 a0_4 a0_5 a0_6 a0_7 a0_8 a0_9 r w hk h
  · exact fields_5_true k a0_0 a0_1 a0_2 a0_3 a0_4 a0_5 a0_6 a0_7 a0_8 a0_9 r w hk h
  · exact fields_6_false k a0_0 a0_1 a0_2 a0_3 a0_4 a0_5 a0_6 a0_7 a0_8 a0_9 r w hk h
  · exact fields_6_true k a0_0 a0_1 a0_2 a0_3 a0_4 a0_5 a0_6 a0_7 a0_8 a0_9 r w hk h
  · exact fields_7_false k a0_0 a0_1 a0_2 a0_3 a0_4 a0_5 a0_6 a0_7 a0_8 a0_9 r w hk h
  · exact fields_7_true k a0_0 a0_1 a0_2 a0_3 a0_4 a0_5 a0_6 a0_7 a0_8 a0_9 r w hk h
  · exact fields_8_false k a0_0 a0_1 a0_2 a0_3 a0_4 a0_5 a0_6 a0_7 a0_8 a0_9 r w hk h
  · exact fields_8_true k a0_0 a0_1 a0_2 a0_3 a0_4 a0_5 a0_6 a0_7 a0_8 a0_9 r w hk h
  · exact fields_9_false k a0_0 a0_1 a0_2 a0_3 a0_4 a0_5 a0_6 a0_7 a0_8 a0_9 r w hk h
  · exact fields_9_true k a0_0 a0_1 a0_2 a0_3 a0_4 a0_5 a0_6 a0_7 a0_8 a0_9 r w hk h
  · exact fields_10_false k a0_0 a0_1 a0_2 a0_3 a0_4 a0_5 a0_6 a0_7 a0_8 a0_9 r w hk h
  · exact fields_10_true k a0_0 a0_1 a0_2 a0_3 a0_4 a0_5 a0_6 a0_7 a0_8 a0_9 r w hk h
  · exact fields_N_false k a0_0 a0_1 a0_2 a0_3 a0_4 a0_5 a0_6 a0_7 a0_8 a0_9 r w n0 n1 n2 n3 n4 n5 n6 n7 n8 n9 n10 h
  · exact fields_N_true k a0_0 a0_1 a0_2 a0_3 a0_4 a0_5 a0_6 a0_7 a0_8 a0_9 r w n0 n1 n2 n3 n4 n5 n6 n7 n8 n9 n10 h
end Go.Proofs.YtnogfhhfklkbiaaDoor.H
