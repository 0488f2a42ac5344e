/- Several texts in one: contracts of functions of the program, and what they lean on. In part written by a program of this session over the kit's print, in part by hand. -/
import Derived.Test.YtnogfhhfklkbiaaDoorYTrees2
import Derived.Test.YtnogfhhfklkbiaaDoorYTrees3
namespace Go.Proofs.YtnogfhhfklkbiaaDoor.H
open Go.RowKit Go.Proofs.YtnogfhhfklkbiaaDoorW.PrintWords Go.Proofs.YtnogfhhfklkbiaaDoorW.PrintLast Go.Proofs.YtnogfhhfklkbiaaDoorW.PrintMore
attribute [local go_sem] max2_int min2_int max_two min_two max_three min_three max_four min_four
set_option linter.unusedVariables false
set_option linter.unusedSimpArgs false
attribute [local go_sem high] eqA45
def refY (x : S45) (named : Bool) : S45 :=
  { f0 := x.f0, f1 := if 1 ≤ kidsN x.f0 then x.f1 else 0, f2 := if 2 ≤ kidsN x.f0 then x.f2 else 0, f3 := if 3 ≤ kidsN x.f0 then x.f3 else 0,
    f4 := if x.f0 = 1 ∨ x.f0 = 2 ∨ x.f0 = 8 then x.f4 else if (x.f0 = 0 ∨ x.f0 = 9 ∨ x.f0 = 10) ∧ named = false then x.f4 else 0,
    f5 := if (x.f0 = 0 ∨ x.f0 = 9 ∨ x.f0 = 10) ∧ named = true then x.f5 else ⟨#[]⟩, f6 := ⟨#[]⟩, f7 := ⟨#[]⟩, f8 := ⟨#[]⟩, f9 := x.f9 }
def refEq (x y : S45) : Bool := x.f0 == y.f0 && (x.f1 == y.f1 && (x.f2 == y.f2 && (x.f3 == y.f3 && (x.f4 == y.f4 && (x.f5.toList == y.f5.toList && (x.f6.toList == y.f6.toList && (x.f7.toList == y.f7.toList && (x.f8.toList == y.f8.toList && x.f9 == y.f9))))))))
def trammelref1_fields.f (k : Nat) (a0_0 a0_1 a0_2 a0_3 a0_4 : Int) (a0_5 a0_6 a0_7 a0_8 : ByteArray) (a0_9 : Int) (a1 : Bool) : Option Bool :=
  (trammelref1_kids.f k a0_0).bind fun c =>
    let x : S45 := ⟨a0_0, a0_1, a0_2, a0_3, a0_4, a0_5, a0_6, a0_7, a0_8, a0_9⟩
    let y := refY x a1
    (if a1 = true then trammelref1_bound.f k a0_0 a0_1 a0_2 a0_3 a0_4 a0_5 a0_6 a0_7 a0_8 a0_9 y.f0 y.f1 y.f2 y.f3 y.f4 y.f5 y.f6 y.f7 y.f8 y.f9
      else some (true, y.f0, y.f1, y.f2, y.f3, y.f4, y.f5, y.f6, y.f7, y.f8, y.f9)).bind fun z =>
    if z.1 = true then some (decide (c ≥ 0) && (refEq x ⟨z.2.1, z.2.2.1, z.2.2.2.1, z.2.2.2.2.1, z.2.2.2.2.2.1, z.2.2.2.2.2.2.1, z.2.2.2.2.2.2.2.1, z.2.2.2.2.2.2.2.2.1, z.2.2.2.2.2.2.2.2.2.1, z.2.2.2.2.2.2.2.2.2.2⟩ && (decide (a0_9 ≥ 0) && decide (a0_9 ≤ 4096)))) else some false
theorem refKids_is {k : Nat} {a c : Int} (h : trammelref1_kids.f k a = some c) : c = if 0 ≤ a ∧ a ≤ 10 then (kidsN a : Int) else -1 := by
  have h3 := at_rounds (trammelref1_kids.mono a) (Nat.le_add_right k 3) h
  have hc : a = 0 ∨ a = 1 ∨ a = 2 ∨ a = 3 ∨ a = 4 ∨ a = 5 ∨ a = 6 ∨ a = 7 ∨ a = 8 ∨ a = 9 ∨ a = 10 ∨ (¬ a = 0 ∧ ¬ a = 1 ∧ ¬ a = 2 ∧ ¬ a = 3 ∧ ¬ a = 4 ∧ ¬ a = 5 ∧ ¬ a = 6 ∧ ¬ a = 7 ∧ ¬ a = 8 ∧ ¬ a = 9 ∧ ¬ a = 10) := by omega
  rcases hc with rfl | rfl | rfl | rfl | rfl | rfl | rfl | rfl | rfl | rfl | rfl | ⟨n0, n1, n2, n3, n4, n5, n6, n7, n8, n9, n10⟩
  · exact (Option.some.inj (h3.symm.trans (show trammelref1_kids.f (k + 3) 0 = some (if (0 : Int) ≤ 0 ∧ (0 : Int) ≤ 10 then (kidsN 0 : Int) else -1) from by first | rfl | decide)))
  · exact (Option.some.inj (h3.symm.trans (show trammelref1_kids.f (k + 3) 1 = some (if (0 : Int) ≤ 1 ∧ (1 : Int) ≤ 10 then (kidsN 1 : Int) else -1) from by first | rfl | decide)))
  · exact (Option.some.inj (h3.symm.trans (show trammelref1_kids.f (k + 3) 2 = some (if (0 : Int) ≤ 2 ∧ (2 : Int) ≤ 10 then (kidsN 2 : Int) else -1) from by first | rfl | decide)))
  · exact (Option.some.inj (h3.symm.trans (show trammelref1_kids.f (k + 3) 3 = some (if (0 : Int) ≤ 3 ∧ (3 : Int) ≤ 10 then (kidsN 3 : Int) else -1) from by first | rfl | decide)))
  · exact (Option.some.inj (h3.symm.trans (show trammelref1_kids.f (k + 3) 4 = some (if (0 : Int) ≤ 4 ∧ (4 : Int) ≤ 10 then (kidsN 4 : Int) else -1) from by first | rfl | decide)))
  · exact (Option.some.inj (h3.symm.trans (show trammelref1_kids.f (k + 3) 5 = some (if (0 : Int) ≤ 5 ∧ (5 : Int) ≤ 10 then (kidsN 5 : Int) else -1) from by first | rfl | decide)))
  · exact (Option.some.inj (h3.symm.trans (show trammelref1_kids.f (k + 3) 6 = some (if (0 : Int) ≤ 6 ∧ (6 : Int) ≤ 10 then (kidsN 6 : Int) else -1) from by first | rfl | decide)))
  · exact (Option.some.inj (h3.symm.trans (show trammelref1_kids.f (k + 3) 7 = some (if (0 : Int) ≤ 7 ∧ (7 : Int) ≤ 10 then (kidsN 7 : Int) else -1) from by first | rfl | decide)))
  · exact (Option.some.inj (h3.symm.trans (show trammelref1_kids.f (k + 3) 8 = some (if (0 : Int) ≤ 8 ∧ (8 : Int) ≤ 10 then (kidsN 8 : Int) else -1) from by first | rfl | decide)))
  · exact (Option.some.inj (h3.symm.trans (show trammelref1_kids.f (k + 3) 9 = some (if (0 : Int) ≤ 9 ∧ (9 : Int) ≤ 10 then (kidsN 9 : Int) else -1) from by first | rfl | decide)))
  · exact (Option.some.inj (h3.symm.trans (show trammelref1_kids.f (k + 3) 10 = some (if (0 : Int) ≤ 10 ∧ (10 : Int) ≤ 10 then (kidsN 10 : Int) else -1) from by first | rfl | decide)))
  · have e : ∀ n : Int, (a == n) = decide (a = n) := fun n => by by_cases q : a = n <;> simp [q]
    have hn : ¬ (0 ≤ a ∧ a ≤ 10) := by omega
    rw [if_neg hn]
    simp only [trammelref1_kids.f, trammelref1_kids.j0, trammelref1_kids.j1, trammelref1_kids.j2, e, n0, n1, n2, n3, n4, n5, n6, n7, n8, n9, n10, decide_false, Bool.false_eq_true, if_false] at h3
    exact (Option.some.inj h3).symm
theorem blk_keep {w W : World} {g b : Nat} {o : Obj} (h : KeepBut w W g none) (hc : w.heap[b]? = some o) (hne : b ≠ g) : W.heap[b]? = some o := (h.2 b (blk_lt hc) hne (by simp)).trans hc
set_option maxRecDepth 100000 in
set_option maxHeartbeats 8000000 in
theorem fields_0_false (k : Nat) (a0_0 a0_1 a0_2 a0_3 a0_4 : Int) (a0_5 a0_6 a0_7 a0_8 : ByteArray) (a0_9 : Int) (r : Bool) (w : World) (hk : a0_0 = 0) (h : trammelref1_fields.f k a0_0 a0_1 a0_2 a0_3 a0_4 a0_5 a0_6 a0_7 a0_8 a0_9 false = some r) :
    Calls Tryd.prog 74 #[.agg #[.int .i64 a0_0, .int .i64 a0_1, .int .i64 a0_2, .int .i64 a0_3, .int .i64 a0_4, .string a0_5, .string a0_6, .string a0_7, .string a0_8, .int .i64 a0_9], .bool false] w fun e w' => e = .returned (.bool r) ∧ Below w.heap.size w w' := by
  have hu45 := Tryd.underlying45
  subst hk
  have hy : refY ⟨0, a0_1, a0_2, a0_3, a0_4, a0_5, a0_6, a0_7, a0_8, a0_9⟩ false = (⟨0, 0, 0, 0, a0_4, (⟨#[]⟩ : ByteArray), (⟨#[]⟩ : ByteArray), (⟨#[]⟩ : ByteArray), (⟨#[]⟩ : ByteArray), a0_9⟩ : S45) := by rfl
  unfold trammelref1_fields.f at h
  dsimp only at h
  rw [hy] at h
  replace h := Option.bind_eq_some_iff.mp h
  obtain ⟨c, hc, h⟩ := h
  have hc3 := refKids_is hc
  replace hc3 : c = 0 := hc3.trans (by decide)
  subst hc3
  have HK := Aside0.mk hc
  clear hc hy
  rw [if_neg (by decide), Option.bind_some, if_pos rfl] at h
  dsimp only at h
  obtain rfl := Option.some.inj h
  clear h
  go_enter Tryd.func74, Tryd.ntmps74
  go_wp2_with (go_at_call 63; (with_reducible refine (trammelref1_kids.calls k _ _ _ HK.out).mono ?_); rintro e w' ⟨rfl, ⟨nd, rfl⟩⟩)
  all_goals
    go_ret
    clear HK hu45
    refine ⟨?_, by repeat (first | exact Below.refl _ _ | apply pw_below_drewN | refine below_set ?_ (Nat.le_succ _) | refine Below.alloc ?_ (by first | exact Nat.le_refl _ | simp) _)⟩
    first
      | rfl
      | (simp [refEq, *]; done)
      | (simp [refEq, *]; omega)
      | (simp [refEq, *]; intros; omega)
      | (simp_all [refEq]; done)
set_option maxRecDepth 100000 in
set_option maxHeartbeats 8000000 in
theorem fields_0_true (k : Nat) (a0_0 a0_1 a0_2 a0_3 a0_4 : Int) (a0_5 a0_6 a0_7 a0_8 : ByteArray) (a0_9 : Int) (r : Bool) (w : World) (hk : a0_0 = 0) (h : trammelref1_fields.f k a0_0 a0_1 a0_2 a0_3 a0_4 a0_5 a0_6 a0_7 a0_8 a0_9 true = some r) :
    Calls Tryd.prog 74 #[.agg #[.int .i64 a0_0, .int .i64 a0_1, .int .i64 a0_2, .int .i64 a0_3, .int .i64 a0_4, .string a0_5, .string a0_6, .string a0_7, .string a0_8, .int .i64 a0_9], .bool true] w fun e w' => e = .returned (.bool r) ∧ Below w.heap.size w w' := by
  have hu45 := Tryd.underlying45
  subst hk
  have hy : refY ⟨0, a0_1, a0_2, a0_3, a0_4, a0_5, a0_6, a0_7, a0_8, a0_9⟩ true = (⟨0, 0, 0, 0, 0, a0_5, (⟨#[]⟩ : ByteArray), (⟨#[]⟩ : ByteArray), (⟨#[]⟩ : ByteArray), a0_9⟩ : S45) := by rfl
  unfold trammelref1_fields.f at h
  dsimp only at h
  rw [hy] at h
  replace h := Option.bind_eq_some_iff.mp h
  obtain ⟨c, hc, h⟩ := h
  have hc3 := refKids_is hc
  replace hc3 : c = 0 := hc3.trans (by decide)
  subst hc3
  have HK := Aside0.mk hc
  clear hc hy
  replace h := Option.bind_eq_some_iff.mp h
  obtain ⟨⟨ok, z0, z1, z2, z3, z4, z5, z6, z7, z8, z9⟩, hz, h⟩ := h
  rw [if_pos rfl] at hz
  have HZ := Aside0.mk (show trammelref1_bound.f k 0 a0_1 a0_2 a0_3 a0_4 a0_5 a0_6 a0_7 a0_8 a0_9 0 0 0 0 0 a0_5 (⟨#[]⟩ : ByteArray) (⟨#[]⟩ : ByteArray) (⟨#[]⟩ : ByteArray) a0_9 = some (ok, z0, z1, z2, z3, z4, z5, z6, z7, z8, z9) from hz)
  clear hz
  dsimp only at h
  cases ok
  case false =>
    rw [if_neg (by decide)] at h
    obtain rfl := Option.some.inj h
    clear h
    go_enter Tryd.func74, Tryd.ntmps74
    go_wp2_with (first | (go_at_call 63; (with_reducible refine (trammelref1_kids.calls k _ _ _ HK.out).mono ?_); rintro e w' ⟨rfl, ⟨nd, rfl⟩⟩) | (go_at_call 95; refine (trammelref1_bound.calls k 0 a0_1 a0_2 a0_3 a0_4 a0_5 a0_6 a0_7 a0_8 a0_9 (w.heap.size + 1) 0 0 0 0 0 a0_5 (⟨#[]⟩ : ByteArray) (⟨#[]⟩ : ByteArray) (⟨#[]⟩ : ByteArray) a0_9 false z0 z1 z2 z3 z4 z5 z6 z7 z8 z9 w _ ⟨(blk_put (cs' := #[.int .i64 0, .int .i64 0, .int .i64 0, .int .i64 0, .int .i64 0, .string a0_5, .string (⟨#[]⟩ : ByteArray), .string (⟨#[]⟩ : ByteArray), .string (⟨#[]⟩ : ByteArray), .int .i64 a0_9]) (show (((w.alloc (.cells #[.int .i64 0, .int .i64 a0_1, .int .i64 a0_2, .int .i64 a0_3, .int .i64 a0_4, .string a0_5, .string a0_6, .string a0_7, .string a0_8, .int .i64 a0_9] 45)).alloc (.cells #[.int .i64 0, .int .i64 0, .int .i64 0, .int .i64 0, .int .i64 0, .string (⟨#[]⟩ : ByteArray), .string (⟨#[]⟩ : ByteArray), .string (⟨#[]⟩ : ByteArray), .string (⟨#[]⟩ : ByteArray), .int .i64 a0_9] 45)).drewN nd).heap[w.heap.size + 1]? = some (.cells #[.int .i64 0, .int .i64 0, .int .i64 0, .int .i64 0, .int .i64 0, .string (⟨#[]⟩ : ByteArray), .string (⟨#[]⟩ : ByteArray), .string (⟨#[]⟩ : ByteArray), .string (⟨#[]⟩ : ByteArray), .int .i64 a0_9] 45 (0, 0)) from blk_drewN (by have h_ := blk_new (w.alloc (.cells #[.int .i64 0, .int .i64 a0_1, .int .i64 a0_2, .int .i64 a0_3, .int .i64 a0_4, .string a0_5, .string a0_6, .string a0_7, .string a0_8, .int .i64 a0_9] 45)) (.cells #[.int .i64 0, .int .i64 0, .int .i64 0, .int .i64 0, .int .i64 0, .string (⟨#[]⟩ : ByteArray), .string (⟨#[]⟩ : ByteArray), .string (⟨#[]⟩ : ByteArray), .string (⟨#[]⟩ : ByteArray), .int .i64 a0_9] 45); rwa [show (w.alloc (.cells #[.int .i64 0, .int .i64 a0_1, .int .i64 a0_2, .int .i64 a0_3, .int .i64 a0_4, .string a0_5, .string a0_6, .string a0_7, .string a0_8, .int .i64 a0_9] 45)).heap.size = w.heap.size + 1 from by simp] at h_) nd) 5 (.string a0_5) rfl), Nat.le_succ _⟩ (by repeat (first | exact Below.refl _ _ | apply pw_below_drewN | refine below_set ?_ (Nat.le_succ _) | refine Below.alloc ?_ (by first | exact Nat.le_refl _ | simp) _)) HZ.out).mono ?_; rintro e w2 ⟨rfl, hI2, hB2, hK2⟩; have hx2 := blk_keep hK2 (blk_far (p := ⟨w.heap.size + 1, 5, none⟩) (show (((w.alloc (.cells #[.int .i64 0, .int .i64 a0_1, .int .i64 a0_2, .int .i64 a0_3, .int .i64 a0_4, .string a0_5, .string a0_6, .string a0_7, .string a0_8, .int .i64 a0_9] 45)).alloc (.cells #[.int .i64 0, .int .i64 0, .int .i64 0, .int .i64 0, .int .i64 0, .string (⟨#[]⟩ : ByteArray), .string (⟨#[]⟩ : ByteArray), .string (⟨#[]⟩ : ByteArray), .string (⟨#[]⟩ : ByteArray), .int .i64 a0_9] 45)).drewN nd).heap[w.heap.size]? = some (.cells #[.int .i64 0, .int .i64 a0_1, .int .i64 a0_2, .int .i64 a0_3, .int .i64 a0_4, .string a0_5, .string a0_6, .string a0_7, .string a0_8, .int .i64 a0_9] 45 (0, 0)) from blk_drewN (blk_alloc (blk_new w _) _) nd) (Nat.ne_of_lt (Nat.lt_succ_self _)) (.string a0_5)) (Nat.ne_of_lt (Nat.lt_succ_self _)); have hy2 := hI2.1; have hx2_0 : w2.cell? ⟨w.heap.size, 0, none⟩ = some (.int .i64 0) := (blk_cell hx2 0).trans rfl; have hy2_0 : w2.cell? ⟨w.heap.size + 1, 0, none⟩ = some (.int .i64 z0) := (blk_cell hy2 0).trans rfl; have hx2_1 : w2.cell? ⟨w.heap.size, 1, none⟩ = some (.int .i64 a0_1) := (blk_cell hx2 1).trans rfl; have hy2_1 : w2.cell? ⟨w.heap.size + 1, 1, none⟩ = some (.int .i64 z1) := (blk_cell hy2 1).trans rfl; have hx2_2 : w2.cell? ⟨w.heap.size, 2, none⟩ = some (.int .i64 a0_2) := (blk_cell hx2 2).trans rfl; have hy2_2 : w2.cell? ⟨w.heap.size + 1, 2, none⟩ = some (.int .i64 z2) := (blk_cell hy2 2).trans rfl; have hx2_3 : w2.cell? ⟨w.heap.size, 3, none⟩ = some (.int .i64 a0_3) := (blk_cell hx2 3).trans rfl; have hy2_3 : w2.cell? ⟨w.heap.size + 1, 3, none⟩ = some (.int .i64 z3) := (blk_cell hy2 3).trans rfl; have hx2_4 : w2.cell? ⟨w.heap.size, 4, none⟩ = some (.int .i64 a0_4) := (blk_cell hx2 4).trans rfl; have hy2_4 : w2.cell? ⟨w.heap.size + 1, 4, none⟩ = some (.int .i64 z4) := (blk_cell hy2 4).trans rfl; have hx2_5 : w2.cell? ⟨w.heap.size, 5, none⟩ = some (.string a0_5) := (blk_cell hx2 5).trans rfl; have hy2_5 : w2.cell? ⟨w.heap.size + 1, 5, none⟩ = some (.string z5) := (blk_cell hy2 5).trans rfl; have hx2_6 : w2.cell? ⟨w.heap.size, 6, none⟩ = some (.string a0_6) := (blk_cell hx2 6).trans rfl; have hy2_6 : w2.cell? ⟨w.heap.size + 1, 6, none⟩ = some (.string z6) := (blk_cell hy2 6).trans rfl; have hx2_7 : w2.cell? ⟨w.heap.size, 7, none⟩ = some (.string a0_7) := (blk_cell hx2 7).trans rfl; have hy2_7 : w2.cell? ⟨w.heap.size + 1, 7, none⟩ = some (.string z7) := (blk_cell hy2 7).trans rfl; have hx2_8 : w2.cell? ⟨w.heap.size, 8, none⟩ = some (.string a0_8) := (blk_cell hx2 8).trans rfl; have hy2_8 : w2.cell? ⟨w.heap.size + 1, 8, none⟩ = some (.string z8) := (blk_cell hy2 8).trans rfl; have hx2_9 : w2.cell? ⟨w.heap.size, 9, none⟩ = some (.int .i64 a0_9) := (blk_cell hx2 9).trans rfl; have hy2_9 : w2.cell? ⟨w.heap.size + 1, 9, none⟩ = some (.int .i64 z9) := (blk_cell hy2 9).trans rfl; have HB2 := Aside0.mk hB2; clear hx2 hy2 hI2 hB2 hK2))
    all_goals
      go_ret
      clear HK hu45
      refine ⟨?_, by repeat (first | exact HB2.out | exact Below.refl _ _ | apply pw_below_drewN | refine below_set ?_ (Nat.le_succ _) | refine Below.alloc ?_ (by first | exact Nat.le_refl _ | simp) _)⟩
      first
        | rfl
        | (simp [refEq, *]; done)
        | (simp [refEq, *]; omega)
        | (simp [refEq, *]; intros; omega)
        | (simp_all [refEq]; done)
  case true =>
    rw [if_pos rfl] at h
    obtain rfl := Option.some.inj h
    clear h
    go_enter Tryd.func74, Tryd.ntmps74
    go_wp2_with (first | (go_at_call 63; (with_reducible refine (trammelref1_kids.calls k _ _ _ HK.out).mono ?_); rintro e w' ⟨rfl, ⟨nd, rfl⟩⟩) | (go_at_call 95; refine (trammelref1_bound.calls k 0 a0_1 a0_2 a0_3 a0_4 a0_5 a0_6 a0_7 a0_8 a0_9 (w.heap.size + 1) 0 0 0 0 0 a0_5 (⟨#[]⟩ : ByteArray) (⟨#[]⟩ : ByteArray) (⟨#[]⟩ : ByteArray) a0_9 true z0 z1 z2 z3 z4 z5 z6 z7 z8 z9 w _ ⟨(blk_put (cs' := #[.int .i64 0, .int .i64 0, .int .i64 0, .int .i64 0, .int .i64 0, .string a0_5, .string (⟨#[]⟩ : ByteArray), .string (⟨#[]⟩ : ByteArray), .string (⟨#[]⟩ : ByteArray), .int .i64 a0_9]) (show (((w.alloc (.cells #[.int .i64 0, .int .i64 a0_1, .int .i64 a0_2, .int .i64 a0_3, .int .i64 a0_4, .string a0_5, .string a0_6, .string a0_7, .string a0_8, .int .i64 a0_9] 45)).alloc (.cells #[.int .i64 0, .int .i64 0, .int .i64 0, .int .i64 0, .int .i64 0, .string (⟨#[]⟩ : ByteArray), .string (⟨#[]⟩ : ByteArray), .string (⟨#[]⟩ : ByteArray), .string (⟨#[]⟩ : ByteArray), .int .i64 a0_9] 45)).drewN nd).heap[w.heap.size + 1]? = some (.cells #[.int .i64 0, .int .i64 0, .int .i64 0, .int .i64 0, .int .i64 0, .string (⟨#[]⟩ : ByteArray), .string (⟨#[]⟩ : ByteArray), .string (⟨#[]⟩ : ByteArray), .string (⟨#[]⟩ : ByteArray), .int .i64 a0_9] 45 (0, 0)) from blk_drewN (by have h_ := blk_new (w.alloc (.cells #[.int .i64 0, .int .i64 a0_1, .int .i64 a0_2, .int .i64 a0_3, .int .i64 a0_4, .string a0_5, .string a0_6, .string a0_7, .string a0_8, .int .i64 a0_9] 45)) (.cells #[.int .i64 0, .int .i64 0, .int .i64 0, .int .i64 0, .int .i64 0, .string (⟨#[]⟩ : ByteArray), .string (⟨#[]⟩ : ByteArray), .string (⟨#[]⟩ : ByteArray), .string (⟨#[]⟩ : ByteArray), .int .i64 a0_9] 45); rwa [show (w.alloc (.cells #[.int .i64 0, .int .i64 a0_1, .int .i64 a0_2, .int .i64 a0_3, .int .i64 a0_4, .string a0_5, .string a0_6, .string a0_7, .string a0_8, .int .i64 a0_9] 45)).heap.size = w.heap.size + 1 from by simp] at h_) nd) 5 (.string a0_5) rfl), Nat.le_succ _⟩ (by repeat (first | exact Below.refl _ _ | apply pw_below_drewN | refine below_set ?_ (Nat.le_succ _) | refine Below.alloc ?_ (by first | exact Nat.le_refl _ | simp) _)) HZ.out).mono ?_; rintro e w2 ⟨rfl, hI2, hB2, hK2⟩; have hx2 := blk_keep hK2 (blk_far (p := ⟨w.heap.size + 1, 5, none⟩) (show (((w.alloc (.cells #[.int .i64 0, .int .i64 a0_1, .int .i64 a0_2, .int .i64 a0_3, .int .i64 a0_4, .string a0_5, .string a0_6, .string a0_7, .string a0_8, .int .i64 a0_9] 45)).alloc (.cells #[.int .i64 0, .int .i64 0, .int .i64 0, .int .i64 0, .int .i64 0, .string (⟨#[]⟩ : ByteArray), .string (⟨#[]⟩ : ByteArray), .string (⟨#[]⟩ : ByteArray), .string (⟨#[]⟩ : ByteArray), .int .i64 a0_9] 45)).drewN nd).heap[w.heap.size]? = some (.cells #[.int .i64 0, .int .i64 a0_1, .int .i64 a0_2, .int .i64 a0_3, .int .i64 a0_4, .string a0_5, .string a0_6, .string a0_7, .string a0_8, .int .i64 a0_9] 45 (0, 0)) from blk_drewN (blk_alloc (blk_new w _) _) nd) (Nat.ne_of_lt (Nat.lt_succ_self _)) (.string a0_5)) (Nat.ne_of_lt (Nat.lt_succ_self _)); have hy2 := hI2.1; have hx2_0 : w2.cell? ⟨w.heap.size, 0, none⟩ = some (.int .i64 0) := (blk_cell hx2 0).trans rfl; have hy2_0 : w2.cell? ⟨w.heap.size + 1, 0, none⟩ = some (.int .i64 z0) := (blk_cell hy2 0).trans rfl; have hx2_1 : w2.cell? ⟨w.heap.size, 1, none⟩ = some (.int .i64 a0_1) := (blk_cell hx2 1).trans rfl; have hy2_1 : w2.cell? ⟨w.heap.size + 1, 1, none⟩ = some (.int .i64 z1) := (blk_cell hy2 1).trans rfl; have hx2_2 : w2.cell? ⟨w.heap.size, 2, none⟩ = some (.int .i64 a0_2) := (blk_cell hx2 2).trans rfl; have hy2_2 : w2.cell? ⟨w.heap.size + 1, 2, none⟩ = some (.int .i64 z2) := (blk_cell hy2 2).trans rfl; have hx2_3 : w2.cell? ⟨w.heap.size, 3, none⟩ = some (.int .i64 a0_3) := (blk_cell hx2 3).trans rfl; have hy2_3 : w2.cell? ⟨w.heap.size + 1, 3, none⟩ = some (.int .i64 z3) := (blk_cell hy2 3).trans rfl; have hx2_4 : w2.cell? ⟨w.heap.size, 4, none⟩ = some (.int .i64 a0_4) := (blk_cell hx2 4).trans rfl; have hy2_4 : w2.cell? ⟨w.heap.size + 1, 4, none⟩ = some (.int .i64 z4) := (blk_cell hy2 4).trans rfl; have hx2_5 : w2.cell? ⟨w.heap.size, 5, none⟩ = some (.string a0_5) := (blk_cell hx2 5).trans rfl; have hy2_5 : w2.cell? ⟨w.heap.size + 1, 5, none⟩ = some (.string z5) := (blk_cell hy2 5).trans rfl; have hx2_6 : w2.cell? ⟨w.heap.size, 6, none⟩ = some (.string a0_6) := (blk_cell hx2 6).trans rfl; have hy2_6 : w2.cell? ⟨w.heap.size + 1, 6, none⟩ = some (.string z6) := (blk_cell hy2 6).trans rfl; have hx2_7 : w2.cell? ⟨w.heap.size, 7, none⟩ = some (.string a0_7) := (blk_cell hx2 7).trans rfl; have hy2_7 : w2.cell? ⟨w.heap.size + 1, 7, none⟩ = some (.string z7) := (blk_cell hy2 7).trans rfl; have hx2_8 : w2.cell? ⟨w.heap.size, 8, none⟩ = some (.string a0_8) := (blk_cell hx2 8).trans rfl; have hy2_8 : w2.cell? ⟨w.heap.size + 1, 8, none⟩ = some (.string z8) := (blk_cell hy2 8).trans rfl; have hx2_9 : w2.cell? ⟨w.heap.size, 9, none⟩ = some (.int .i64 a0_9) := (blk_cell hx2 9).trans rfl; have hy2_9 : w2.cell? ⟨w.heap.size + 1, 9, none⟩ = some (.int .i64 z9) := (blk_cell hy2 9).trans rfl; have HB2 := Aside0.mk hB2; clear hx2 hy2 hI2 hB2 hK2))
    all_goals
      go_ret
      clear HK hu45
      refine ⟨?_, by repeat (first | exact HB2.out | exact Below.refl _ _ | apply pw_below_drewN | refine below_set ?_ (Nat.le_succ _) | refine Below.alloc ?_ (by first | exact Nat.le_refl _ | simp) _)⟩
      first
        | rfl
        | (simp [refEq, *]; done)
        | (simp [refEq, *]; omega)
        | (simp [refEq, *]; intros; omega)
        | (simp_all [refEq]; done)
set_option maxRecDepth 100000 in
set_option maxHeartbeats 8000000 in
theorem fields_1_false (k : Nat) (a0_0 a0_1 a0_2 a0_3 a0_4 : Int) (a0_5 a0_6 a0_7 a0_8 : ByteArray) (a0_9 : Int) (r : Bool) (w : World) (hk : a0_0 = 1) (h : trammelref1_fields.f k a0_0 a0_1 a0_2 a0_3 a0_4 a0_5 a0_6 a0_7 a0_8 a0_9 false = some r) :
    Calls Tryd.prog 74 #[.agg #[.int .i64 a0_0, .int .i64 a0_1, .int .i64 a0_2, .int .i64 a0_3, .int .i64 a0_4, .string a0_5, .string a0_6, .string a0_7, .string a0_8, .int .i64 a0_9], .bool false] w fun e w' => e = .returned (.bool r) ∧ Below w.heap.size w w' := by
  have hu45 := Tryd.underlying45
  subst hk
  have hy : refY ⟨1, a0_1, a0_2, a0_3, a0_4, a0_5, a0_6, a0_7, a0_8, a0_9⟩ false = (⟨1, 0, 0, 0, a0_4, (⟨#[]⟩ : ByteArray), (⟨#[]⟩ : ByteArray), (⟨#[]⟩ : ByteArray), (⟨#[]⟩ : ByteArray), a0_9⟩ : S45) := by rfl
  unfold trammelref1_fields.f at h
  dsimp only at h
  rw [hy] at h
  replace h := Option.bind_eq_some_iff.mp h
  obtain ⟨c, hc, h⟩ := h
  have hc3 := refKids_is hc
  replace hc3 : c = 0 := hc3.trans (by decide)
  subst hc3
  have HK := Aside0.mk hc
  clear hc hy
  rw [if_neg (by decide), Option.bind_some, if_pos rfl] at h
  dsimp only at h
  obtain rfl := Option.some.inj h
  clear h
  go_enter Tryd.func74, Tryd.ntmps74
  go_wp2_with (go_at_call 63; (with_reducible refine (trammelref1_kids.calls k _ _ _ HK.out).mono ?_); rintro e w' ⟨rfl, ⟨nd, rfl⟩⟩)
  all_goals
    go_ret
    clear HK hu45
    refine ⟨?_, by repeat (first | exact Below.refl _ _ | apply pw_below_drewN | refine below_set ?_ (Nat.le_succ _) | refine Below.alloc ?_ (by first | exact Nat.le_refl _ | simp) _)⟩
    first
      | rfl
      | (simp [refEq, *]; done)
      | (simp [refEq, *]; omega)
      | (simp [refEq, *]; intros; omega)
      | (simp_all [refEq]; done)
set_option maxRecDepth 100000 in
set_option maxHeartbeats 8000000 in
theorem fields_1_true (k : Nat) (a0_0 a0_1 a0_2 a0_3 a0_4 : Int) (a0_5 a0_6 a0_7 a0_8 : ByteArray) (a0_9 : Int) (r : Bool) (w : World) (hk : a0_0 = 1) (h : trammelref1_fields.f k a0_0 a0_1 a0_2 a0_3 a0_4 a0_5 a0_6 a0_7 a0_8 a0_9 true = some r) :
    Calls Tryd.prog 74 #[.agg #[.int .i64 a0_0, .int .i64 a0_1, .int .i64 a0_2, .int .i64 a0_3, .int .i64 a0_4, .string a0_5, .string a0_6, .string a0_7, .string a0_8, .int .i64 a0_9], .bool true] w fun e w' => e = .returned (.bool r) ∧ Below w.heap.size w w' := by
  have hu45 := Tryd.underlying45
  subst hk
  have hy : refY ⟨1, a0_1, a0_2, a0_3, a0_4, a0_5, a0_6, a0_7, a0_8, a0_9⟩ true = (⟨1, 0, 0, 0, a0_4, (⟨#[]⟩ : ByteArray), (⟨#[]⟩ : ByteArray), (⟨#[]⟩ : ByteArray), (⟨#[]⟩ : ByteArray), a0_9⟩ : S45) := by rfl
  unfold trammelref1_fields.f at h
  dsimp only at h
  rw [hy] at h
  replace h := Option.bind_eq_some_iff.mp h
  obtain ⟨c, hc, h⟩ := h
  have hc3 := refKids_is hc
  replace hc3 : c = 0 := hc3.trans (by decide)
  subst hc3
  have HK := Aside0.mk hc
  clear hc hy
  replace h := Option.bind_eq_some_iff.mp h
  obtain ⟨⟨ok, z0, z1, z2, z3, z4, z5, z6, z7, z8, z9⟩, hz, h⟩ := h
  rw [if_pos rfl] at hz
  have HZ := Aside0.mk (show trammelref1_bound.f k 1 a0_1 a0_2 a0_3 a0_4 a0_5 a0_6 a0_7 a0_8 a0_9 1 0 0 0 a0_4 (⟨#[]⟩ : ByteArray) (⟨#[]⟩ : ByteArray) (⟨#[]⟩ : ByteArray) (⟨#[]⟩ : ByteArray) a0_9 = some (ok, z0, z1, z2, z3, z4, z5, z6, z7, z8, z9) from hz)
  clear hz
  dsimp only at h
  cases ok
  case false =>
    rw [if_neg (by decide)] at h
    obtain rfl := Option.some.inj h
    clear h
    go_enter Tryd.func74, Tryd.ntmps74
    go_wp2_with (first | (go_at_call 63; (with_reducible refine (trammelref1_kids.calls k _ _ _ HK.out).mono ?_); rintro e w' ⟨rfl, ⟨nd, rfl⟩⟩) | (go_at_call 95; refine (trammelref1_bound.calls k 1 a0_1 a0_2 a0_3 a0_4 a0_5 a0_6 a0_7 a0_8 a0_9 (w.heap.size + 1) 1 0 0 0 a0_4 (⟨#[]⟩ : ByteArray) (⟨#[]⟩ : ByteArray) (⟨#[]⟩ : ByteArray) (⟨#[]⟩ : ByteArray) a0_9 false z0 z1 z2 z3 z4 z5 z6 z7 z8 z9 w _ ⟨(blk_put (cs' := #[.int .i64 1, .int .i64 0, .int .i64 0, .int .i64 0, .int .i64 a0_4, .string (⟨#[]⟩ : ByteArray), .string (⟨#[]⟩ : ByteArray), .string (⟨#[]⟩ : ByteArray), .string (⟨#[]⟩ : ByteArray), .int .i64 a0_9]) (show (((w.alloc (.cells #[.int .i64 1, .int .i64 a0_1, .int .i64 a0_2, .int .i64 a0_3, .int .i64 a0_4, .string a0_5, .string a0_6, .string a0_7, .string a0_8, .int .i64 a0_9] 45)).alloc (.cells #[.int .i64 1, .int .i64 0, .int .i64 0, .int .i64 0, .int .i64 0, .string (⟨#[]⟩ : ByteArray), .string (⟨#[]⟩ : ByteArray), .string (⟨#[]⟩ : ByteArray), .string (⟨#[]⟩ : ByteArray), .int .i64 a0_9] 45)).drewN nd).heap[w.heap.size + 1]? = some (.cells #[.int .i64 1, .int .i64 0, .int .i64 0, .int .i64 0, .int .i64 0, .string (⟨#[]⟩ : ByteArray), .string (⟨#[]⟩ : ByteArray), .string (⟨#[]⟩ : ByteArray), .string (⟨#[]⟩ : ByteArray), .int .i64 a0_9] 45 (0, 0)) from blk_drewN (by have h_ := blk_new (w.alloc (.cells #[.int .i64 1, .int .i64 a0_1, .int .i64 a0_2, .int .i64 a0_3, .int .i64 a0_4, .string a0_5, .string a0_6, .string a0_7, .string a0_8, .int .i64 a0_9] 45)) (.cells #[.int .i64 1, .int .i64 0, .int .i64 0, .int .i64 0, .int .i64 0, .string (⟨#[]⟩ : ByteArray), .string (⟨#[]⟩ : ByteArray), .string (⟨#[]⟩ : ByteArray), .string (⟨#[]⟩ : ByteArray), .int .i64 a0_9] 45); rwa [show (w.alloc (.cells #[.int .i64 1, .int .i64 a0_1, .int .i64 a0_2, .int .i64 a0_3, .int .i64 a0_4, .string a0_5, .string a0_6, .string a0_7, .string a0_8, .int .i64 a0_9] 45)).heap.size = w.heap.size + 1 from by simp] at h_) nd) 4 (.int .i64 a0_4) rfl), Nat.le_succ _⟩ (by repeat (first | exact Below.refl _ _ | apply pw_below_drewN | refine below_set ?_ (Nat.le_succ _) | refine Below.alloc ?_ (by first | exact Nat.le_refl _ | simp) _)) HZ.out).mono ?_; rintro e w2 ⟨rfl, hI2, hB2, hK2⟩; have hx2 := blk_keep hK2 (blk_far (p := ⟨w.heap.size + 1, 4, none⟩) (show (((w.alloc (.cells #[.int .i64 1, .int .i64 a0_1, .int .i64 a0_2, .int .i64 a0_3, .int .i64 a0_4, .string a0_5, .string a0_6, .string a0_7, .string a0_8, .int .i64 a0_9] 45)).alloc (.cells #[.int .i64 1, .int .i64 0, .int .i64 0, .int .i64 0, .int .i64 0, .string (⟨#[]⟩ : ByteArray), .string (⟨#[]⟩ : ByteArray), .string (⟨#[]⟩ : ByteArray), .string (⟨#[]⟩ : ByteArray), .int .i64 a0_9] 45)).drewN nd).heap[w.heap.size]? = some (.cells #[.int .i64 1, .int .i64 a0_1, .int .i64 a0_2, .int .i64 a0_3, .int .i64 a0_4, .string a0_5, .string a0_6, .string a0_7, .string a0_8, .int .i64 a0_9] 45 (0, 0)) from blk_drewN (blk_alloc (blk_new w _) _) nd) (Nat.ne_of_lt (Nat.lt_succ_self _)) (.int .i64 a0_4)) (Nat.ne_of_lt (Nat.lt_succ_self _)); have hy2 := hI2.1; have hx2_0 : w2.cell? ⟨w.heap.size, 0, none⟩ = some (.int .i64 1) := (blk_cell hx2 0).trans rfl; have hy2_0 : w2.cell? ⟨w.heap.size + 1, 0, none⟩ = some (.int .i64 z0) := (blk_cell hy2 0).trans rfl; have hx2_1 : w2.cell? ⟨w.heap.size, 1, none⟩ = some (.int .i64 a0_1) := (blk_cell hx2 1).trans rfl; have hy2_1 : w2.cell? ⟨w.heap.size + 1, 1, none⟩ = some (.int .i64 z1) := (blk_cell hy2 1).trans rfl; have hx2_2 : w2.cell? ⟨w.heap.size, 2, none⟩ = some (.int .i64 a0_2) := (blk_cell hx2 2).trans rfl; have hy2_2 : w2.cell? ⟨w.heap.size + 1, 2, none⟩ = some (.int .i64 z2) := (blk_cell hy2 2).trans rfl; have hx2_3 : w2.cell? ⟨w.heap.size, 3, none⟩ = some (.int .i64 a0_3) := (blk_cell hx2 3).trans rfl; have hy2_3 : w2.cell? ⟨w.heap.size + 1, 3, none⟩ = some (.int .i64 z3) := (blk_cell hy2 3).trans rfl; have hx2_4 : w2.cell? ⟨w.heap.size, 4, none⟩ = some (.int .i64 a0_4) := (blk_cell hx2 4).trans rfl; have hy2_4 : w2.cell? ⟨w.heap.size + 1, 4, none⟩ = some (.int .i64 z4) := (blk_cell hy2 4).trans rfl; have hx2_5 : w2.cell? ⟨w.heap.size, 5, none⟩ = some (.string a0_5) := (blk_cell hx2 5).trans rfl; have hy2_5 : w2.cell? ⟨w.heap.size + 1, 5, none⟩ = some (.string z5) := (blk_cell hy2 5).trans rfl; have hx2_6 : w2.cell? ⟨w.heap.size, 6, none⟩ = some (.string a0_6) := (blk_cell hx2 6).trans rfl; have hy2_6 : w2.cell? ⟨w.heap.size + 1, 6, none⟩ = some (.string z6) := (blk_cell hy2 6).trans rfl; have hx2_7 : w2.cell? ⟨w.heap.size, 7, none⟩ = some (.string a0_7) := (blk_cell hx2 7).trans rfl; have hy2_7 : w2.cell? ⟨w.heap.size + 1, 7, none⟩ = some (.string z7) := (blk_cell hy2 7).trans rfl; have hx2_8 : w2.cell? ⟨w.heap.size, 8, none⟩ = some (.string a0_8) := (blk_cell hx2 8).trans rfl; have hy2_8 : w2.cell? ⟨w.heap.size + 1, 8, none⟩ = some (.string z8) := (blk_cell hy2 8).trans rfl; have hx2_9 : w2.cell? ⟨w.heap.size, 9, none⟩ = some (.int .i64 a0_9) := (blk_cell hx2 9).trans rfl; have hy2_9 : w2.cell? ⟨w.heap.size + 1, 9, none⟩ = some (.int .i64 z9) := (blk_cell hy2 9).trans rfl; have HB2 := Aside0.mk hB2; clear hx2 hy2 hI2 hB2 hK2))
    all_goals
      go_ret
      clear HK hu45
      refine ⟨?_, by repeat (first | exact HB2.out | exact Below.refl _ _ | apply pw_below_drewN | refine below_set ?_ (Nat.le_succ _) | refine Below.alloc ?_ (by first | exact Nat.le_refl _ | simp) _)⟩
      first
        | rfl
        | (simp [refEq, *]; done)
        | (simp [refEq, *]; omega)
        | (simp [refEq, *]; intros; omega)
        | (simp_all [refEq]; done)
  case true =>
    rw [if_pos rfl] at h
    obtain rfl := Option.some.inj h
    clear h
    go_enter Tryd.func74, Tryd.ntmps74
    go_wp2_with (first | (go_at_call 63; (with_reducible refine (trammelref1_kids.calls k _ _ _ HK.out).mono ?_); rintro e w' ⟨rfl, ⟨nd, rfl⟩⟩) | (go_at_call 95; refine (trammelref1_bound.calls k 1 a0_1 a0_2 a0_3 a0_4 a0_5 a0_6 a0_7 a0_8 a0_9 (w.heap.size + 1) 1 0 0 0 a0_4 (⟨#[]⟩ : ByteArray) (⟨#[]⟩ : ByteArray) (⟨#[]⟩ : ByteArray) (⟨#[]⟩ : ByteArray) a0_9 true z0 z1 z2 z3 z4 z5 z6 z7 z8 z9 w _ ⟨(blk_put (cs' := #[.int .i64 1, .int .i64 0, .int .i64 0, .int .i64 0, .int .i64 a0_4, .string (⟨#[]⟩ : ByteArray), .string (⟨#[]⟩ : ByteArray), .string (⟨#[]⟩ : ByteArray), .string (⟨#[]⟩ : ByteArray), .int .i64 a0_9]) (show (((w.alloc (.cells #[.int .i64 1, .int .i64 a0_1, .int .i64 a0_2, .int .i64 a0_3, .int .i64 a0_4, .string a0_5, .string a0_6, .string a0_7, .string a0_8, .int .i64 a0_9] 45)).alloc (.cells #[.int .i64 1, .int .i64 0, .int .i64 0, .int .i64 0, .int .i64 0, .string (⟨#[]⟩ : ByteArray), .string (⟨#[]⟩ : ByteArray), .string (⟨#[]⟩ : ByteArray), .string (⟨#[]⟩ : ByteArray), .int .i64 a0_9] 45)).drewN nd).heap[w.heap.size + 1]? = some (.cells #[.int .i64 1, .int .i64 0, .int .i64 0, .int .i64 0, .int .i64 0, .string (⟨#[]⟩ : ByteArray), .string (⟨#[]⟩ : ByteArray), .string (⟨#[]⟩ : ByteArray), .string (⟨#[]⟩ : ByteArray), .int .i64 a0_9] 45 (0, 0)) from blk_drewN (by have h_ := blk_new (w.alloc (.cells #[.int .i64 1, .int .i64 a0_1, .int .i64 a0_2, .int .i64 a0_3, .int .i64 a0_4, .string a0_5, .string a0_6, .string a0_7, .string a0_8, .int .i64 a0_9] 45)) (.cells #[.int .i64 1, .int .i64 0, .int .i64 0, .int .i64 0, .int .i64 0, .string (⟨#[]⟩ : ByteArray), .string (⟨#[]⟩ : ByteArray), .string (⟨#[]⟩ : ByteArray), .string (⟨#[]⟩ : ByteArray), .int .i64 a0_9] 45); rwa [show (w.alloc (.cells #[.int .i64 1, .int .i64 a0_1, .int .i64 a0_2, .int .i64 a0_3, .int .i64 a0_4, .string a0_5, .string a0_6, .string a0_7, .string a0_8, .int .i64 a0_9] 45)).heap.size = w.heap.size + 1 from by simp] at h_) nd) 4 (.int .i64 a0_4) rfl), Nat.le_succ _⟩ (by repeat (first | exact Below.refl _ _ | apply pw_below_drewN | refine below_set ?_ (Nat.le_succ _) | refine Below.alloc ?_ (by first | exact Nat.le_refl _ | simp) _)) HZ.out).mono ?_; rintro e w2 ⟨rfl, hI2, hB2, hK2⟩; have hx2 := blk_keep hK2 (blk_far (p := ⟨w.heap.size + 1, 4, none⟩) (show (((w.alloc (.cells #[.int .i64 1, .int .i64 a0_1, .int .i64 a0_2, .int .i64 a0_3, .int .i64 a0_4, .string a0_5, .string a0_6, .string a0_7, .string a0_8, .int .i64 a0_9] 45)).alloc (.cells #[.int .i64 1, .int .i64 0, .int .i64 0, .int .i64 0, .int .i64 0, .string (⟨#[]⟩ : ByteArray), .string (⟨#[]⟩ : ByteArray), .string (⟨#[]⟩ : ByteArray), .string (⟨#[]⟩ : ByteArray), .int .i64 a0_9] 45)).drewN nd).heap[w.heap.size]? = some (.cells #[.int .i64 1, .int .i64 a0_1, .int .i64 a0_2, .int .i64 a0_3, .int .i64 a0_4, .string a0_5, .string a0_6, .string a0_7, .string a0_8, .int .i64 a0_9] 45 (0, 0)) from blk_drewN (blk_alloc (blk_new w _) _) nd) (Nat.ne_of_lt (Nat.lt_succ_self _)) (.int .i64 a0_4)) (Nat.ne_of_lt (Nat.lt_succ_self _)); have hy2 := hI2.1; have hx2_0 : w2.cell? ⟨w.heap.size, 0, none⟩ = some (.int .i64 1) := (blk_cell hx2 0).trans rfl; have hy2_0 : w2.cell? ⟨w.heap.size + 1, 0, none⟩ = some (.int .i64 z0) := (blk_cell hy2 0).trans rfl; have hx2_1 : w2.cell? ⟨w.heap.size, 1, none⟩ = some (.int .i64 a0_1) := (blk_cell hx2 1).trans rfl; have hy2_1 : w2.cell? ⟨w.heap.size + 1, 1, none⟩ = some (.int .i64 z1) := (blk_cell hy2 1).trans rfl; have hx2_2 : w2.cell? ⟨w.heap.size, 2, none⟩ = some (.int .i64 a0_2) := (blk_cell hx2 2).trans rfl; have hy2_2 : w2.cell? ⟨w.heap.size + 1, 2, none⟩ = some (.int .i64 z2) := (blk_cell hy2 2).trans rfl; have hx2_3 : w2.cell? ⟨w.heap.size, 3, none⟩ = some (.int .i64 a0_3) := (blk_cell hx2 3).trans rfl; have hy2_3 : w2.cell? ⟨w.heap.size + 1, 3, none⟩ = some (.int .i64 z3) := (blk_cell hy2 3).trans rfl; have hx2_4 : w2.cell? ⟨w.heap.size, 4, none⟩ = some (.int .i64 a0_4) := (blk_cell hx2 4).trans rfl; have hy2_4 : w2.cell? ⟨w.heap.size + 1, 4, none⟩ = some (.int .i64 z4) := (blk_cell hy2 4).trans rfl; have hx2_5 : w2.cell? ⟨w.heap.size, 5, none⟩ = some (.string a0_5) := (blk_cell hx2 5).trans rfl; have hy2_5 : w2.cell? ⟨w.heap.size + 1, 5, none⟩ = some (.string z5) := (blk_cell hy2 5).trans rfl; have hx2_6 : w2.cell? ⟨w.heap.size, 6, none⟩ = some (.string a0_6) := (blk_cell hx2 6).trans rfl; have hy2_6 : w2.cell? ⟨w.heap.size + 1, 6, none⟩ = some (.string z6) := (blk_cell hy2 6).trans rfl; have hx2_7 : w2.cell? ⟨w.heap.size, 7, none⟩ = some (.string a0_7) := (blk_cell hx2 7).trans rfl; have hy2_7 : w2.cell? ⟨w.heap.size + 1, 7, none⟩ = some (.string z7) := (blk_cell hy2 7).trans rfl; have hx2_8 : w2.cell? ⟨w.heap.size, 8, none⟩ = some (.string a0_8) := (blk_cell hx2 8).trans rfl; have hy2_8 : w2.cell? ⟨w.heap.size + 1, 8, none⟩ = some (.string z8) := (blk_cell hy2 8).trans rfl; have hx2_9 : w2.cell? ⟨w.heap.size, 9, none⟩ = some (.int .i64 a0_9) := (blk_cell hx2 9).trans rfl; have hy2_9 : w2.cell? ⟨w.heap.size + 1, 9, none⟩ = some (.int .i64 z9) := (blk_cell hy2 9).trans rfl; have HB2 := Aside0.mk hB2; clear hx2 hy2 hI2 hB2 hK2))
    all_goals
      go_ret
      clear HK hu45
      refine ⟨?_, by repeat (first | exact HB2.out | exact Below.refl _ _ | apply pw_below_drewN | refine below_set ?_ (Nat.le_succ _) | refine Below.alloc ?_ (by first | exact Nat.le_refl _ | simp) _)⟩
      first
        | rfl
        | (simp [refEq, *]; done)
        | (simp [refEq, *]; omega)
        | (simp [refEq, *]; intros; omega)
        | (simp_all [refEq]; done)
set_option maxRecDepth 100000 in
set_option maxHeartbeats 8000000 in
theorem fields_2_false (k : Nat) (a0_0 a0_1 a0_2 a0_3 a0_4 : Int) (a0_5 a0_6 a0_7 a0_8 : ByteArray) (a0_9 : Int) (r : Bool) (w : World) (hk : a0_0 = 2) (h : trammelref1_fields.f k a0_0 a0_1 a0_2 a0_3 a0_4 a0_5 a0_6 a0_7 a0_8 a0_9 false = some r) :
    Calls Tryd.prog 74 #[.agg #[.int .i64 a0_0, .int .i64 a0_1, .int .i64 a0_2, .int .i64 a0_3, .int .i64 a0_4, .string a0_5, .string a0_6, .string a0_7, .string a0_8, .int .i64 a0_9], .bool false] w fun e w' => e = .returned (.bool r) ∧ Below w.heap.size w w' := by
  have hu45 := Tryd.underlying45
  subst hk
  have hy : refY ⟨2, a0_1, a0_2, a0_3, a0_4, a0_5, a0_6, a0_7, a0_8, a0_9⟩ false = (⟨2, 0, 0, 0, a0_4, (⟨#[]⟩ : ByteArray), (⟨#[]⟩ : ByteArray), (⟨#[]⟩ : ByteArray), (⟨#[]⟩ : ByteArray), a0_9⟩ : S45) := by rfl
  unfold trammelref1_fields.f at h
  dsimp only at h
  rw [hy] at h
  replace h := Option.bind_eq_some_iff.mp h
  obtain ⟨c, hc, h⟩ := h
  have hc3 := refKids_is hc
  replace hc3 : c = 0 := hc3.trans (by decide)
  subst hc3
  have HK := Aside0.mk hc
  clear hc hy
  rw [if_neg (by decide), Option.bind_some, if_pos rfl] at h
  dsimp only at h
  obtain rfl := Option.some.inj h
  clear h
  go_enter Tryd.func74, Tryd.ntmps74
  go_wp2_with (go_at_call 63; (with_reducible refine (trammelref1_kids.calls k _ _ _ HK.out).mono ?_); rintro e w' ⟨rfl, ⟨nd, rfl⟩⟩)
  all_goals
    go_ret
    clear HK hu45
    refine ⟨?_, by repeat (first | exact Below.refl _ _ | apply pw_below_drewN | refine below_set ?_ (Nat.le_succ _) | refine Below.alloc ?_ (by first | exact Nat.le_refl _ | simp) _)⟩
    first
      | rfl
      | (simp [refEq, *]; done)
      | (simp [refEq, *]; omega)
      | (simp [refEq, *]; intros; omega)
      | (simp_all [refEq]; done)
set_option maxRecDepth 100000 in
set_option maxHeartbeats 8000000 in
theorem fields_2_true (k : Nat) (a0_0 a0_1 a0_2 a0_3 a0_4 : Int) (a0_5 a0_6 a0_7 a0_8 : ByteArray) (a0_9 : Int) (r : Bool) (w : World) (hk : a0_0 = 2) (h : trammelref1_fields.f k a0_0 a0_1 a0_2 a0_3 a0_4 a0_5 a0_6 a0_7 a0_8 a0_9 true = some r) :
    Calls Tryd.prog 74 #[.agg #[.int .i64 a0_0, .int .i64 a0_1, .int .i64 a0_2, .int .i64 a0_3, .int .i64 a0_4, .string a0_5, .string a0_6, .string a0_7, .string a0_8, .int .i64 a0_9], .bool true] w fun e w' => e = .returned (.bool r) ∧ Below w.heap.size w w' := by
  have hu45 := Tryd.underlying45
  subst hk
  have hy : refY ⟨2, a0_1, a0_2, a0_3, a0_4, a0_5, a0_6, a0_7, a0_8, a0_9⟩ true = (⟨2, 0, 0, 0, a0_4, (⟨#[]⟩ : ByteArray), (⟨#[]⟩ : ByteArray), (⟨#[]⟩ : ByteArray), (⟨#[]⟩ : ByteArray), a0_9⟩ : S45) := by rfl
  unfold trammelref1_fields.f at h
  dsimp only at h
  rw [hy] at h
  replace h := Option.bind_eq_some_iff.mp h
  obtain ⟨c, hc, h⟩ := h
  have hc3 := refKids_is hc
  replace hc3 : c = 0 := hc3.trans (by decide)
  subst hc3
  have HK := Aside0.mk hc
  clear hc hy
  replace h := Option.bind_eq_some_iff.mp h
  obtain ⟨⟨ok, z0, z1, z2, z3, z4, z5, z6, z7, z8, z9⟩, hz, h⟩ := h
  rw [if_pos rfl] at hz
  have HZ := Aside0.mk (show trammelref1_bound.f k 2 a0_1 a0_2 a0_3 a0_4 a0_5 a0_6 a0_7 a0_8 a0_9 2 0 0 0 a0_4 (⟨#[]⟩ : ByteArray) (⟨#[]⟩ : ByteArray) (⟨#[]⟩ : ByteArray) (⟨#[]⟩ : ByteArray) a0_9 = some (ok, z0, z1, z2, z3, z4, z5, z6, z7, z8, z9) from hz)
  clear hz
  dsimp only at h
  cases ok
  case false =>
    rw [if_neg (by decide)] at h
    obtain rfl := Option.some.inj h
    clear h
    go_enter Tryd.func74, Tryd.ntmps74
    go_wp2_with (first | (go_at_call 63; (with_reducible refine (trammelref1_kids.calls k _ _ _ HK.out).mono ?_); rintro e w' ⟨rfl, ⟨nd, rfl⟩⟩) | (go_at_call 95; refine (trammelref1_bound.calls k 2 a0_1 a0_2 a0_3 a0_4 a0_5 a0_6 a0_7 a0_8 a0_9 (w.heap.size + 1) 2 0 0 0 a0_4 (⟨#[]⟩ : ByteArray) (⟨#[]⟩ : ByteArray) (⟨#[]⟩ : ByteArray) (⟨#[]⟩ : ByteArray) a0_9 false z0 z1 z2 z3 z4 z5 z6 z7 z8 z9 w _ ⟨(blk_put (cs' := #[.int .i64 2, .int .i64 0, .int .i64 0, .int .i64 0, .int .i64 a0_4, .string (⟨#[]⟩ : ByteArray), .string (⟨#[]⟩ : ByteArray), .string (⟨#[]⟩ : ByteArray), .string (⟨#[]⟩ : ByteArray), .int .i64 a0_9]) (show (((w.alloc (.cells #[.int .i64 2, .int .i64 a0_1, .int .i64 a0_2, .int .i64 a0_3, .int .i64 a0_4, .string a0_5, .string a0_6, .string a0_7, .string a0_8, .int .i64 a0_9] 45)).alloc (.cells #[.int .i64 2, .int .i64 0, .int .i64 0, .int .i64 0, .int .i64 0, .string (⟨#[]⟩ : ByteArray), .string (⟨#[]⟩ : ByteArray), .string (⟨#[]⟩ : ByteArray), .string (⟨#[]⟩ : ByteArray), .int .i64 a0_9] 45)).drewN nd).heap[w.heap.size + 1]? = some (.cells #[.int .i64 2, .int .i64 0, .int .i64 0, .int .i64 0, .int .i64 0, .string (⟨#[]⟩ : ByteArray), .string (⟨#[]⟩ : ByteArray), .string (⟨#[]⟩ : ByteArray), .string (⟨#[]⟩ : ByteArray), .int .i64 a0_9] 45 (0, 0)) from blk_drewN (by have h_ := blk_new (w.alloc (.cells #[.int .i64 2, .int .i64 a0_1, .int .i64 a0_2, .int .i64 a0_3, .int .i64 a0_4, .string a0_5, .string a0_6, .string a0_7, .string a0_8, .int .i64 a0_9] 45)) (.cells #[.int .i64 2, .int .i64 0, .int .i64 0, .int .i64 0, .int .i64 0, .string (⟨#[]⟩ : ByteArray), .string (⟨#[]⟩ : ByteArray), .string (⟨#[]⟩ : ByteArray), .string (⟨#[]⟩ : ByteArray), .int .i64 a0_9] 45); rwa [show (w.alloc (.cells #[.int .i64 2, .int .i64 a0_1, .int .i64 a0_2, .int .i64 a0_3, .int .i64 a0_4, .string a0_5, .string a0_6, .string a0_7, .string a0_8, .int .i64 a0_9] 45)).heap.size = w.heap.size + 1 from by simp] at h_) nd) 4 (.int .i64 a0_4) rfl), Nat.le_succ _⟩ (by repeat (first | exact Below.refl _ _ | apply pw_below_drewN | refine below_set ?_ (Nat.le_succ _) | refine Below.alloc ?_ (by first | exact Nat.le_refl _ | simp) _)) HZ.out).mono ?_; rintro e w2 ⟨rfl, hI2, hB2, hK2⟩; have hx2 := blk_keep hK2 (blk_far (p := ⟨w.heap.size + 1, 4, none⟩) (show (((w.alloc (.cells #[.int .i64 2, .int .i64 a0_1, .int .i64 a0_2, .int .i64 a0_3, .int .i64 a0_4, .string a0_5, .string a0_6, .string a0_7, .string a0_8, .int .i64 a0_9] 45)).alloc (.cells #[.int .i64 2, .int .i64 0, .int .i64 0, .int .i64 0, .int .i64 0, .string (⟨#[]⟩ : ByteArray), .string (⟨#[]⟩ : ByteArray), .string (⟨#[]⟩ : ByteArray), .string (⟨#[]⟩ : ByteArray), .int .i64 a0_9] 45)).drewN nd).heap[w.heap.size]? = some (.cells #[.int .i64 2, .int .i64 a0_1, .int .i64 a0_2, .int .i64 a0_3, .int .i64 a0_4, .string a0_5, .string a0_6, .string a0_7, .string a0_8, .int .i64 a0_9] 45 (0, 0)) from blk_drewN (blk_alloc (blk_new w _) _) nd) (Nat.ne_of_lt (Nat.lt_succ_self _)) (.int .i64 a0_4)) (Nat.ne_of_lt (Nat.lt_succ_self _)); have hy2 := hI2.1; have hx2_0 : w2.cell? ⟨w.heap.size, 0, none⟩ = some (.int .i64 2) := (blk_cell hx2 0).trans rfl; have hy2_0 : w2.cell? ⟨w.heap.size + 1, 0, none⟩ = some (.int .i64 z0) := (blk_cell hy2 0).trans rfl; have hx2_1 : w2.cell? ⟨w.heap.size, 1, none⟩ = some (.int .i64 a0_1) := (blk_cell hx2 1).trans rfl; have hy2_1 : w2.cell? ⟨w.heap.size + 1, 1, none⟩ = some (.int .i64 z1) := (blk_cell hy2 1).trans rfl; have hx2_2 : w2.cell? ⟨w.heap.size, 2, none⟩ = some (.int .i64 a0_2) := (blk_cell hx2 2).trans rfl; have hy2_2 : w2.cell? ⟨w.heap.size + 1, 2, none⟩ = some (.int .i64 z2) := (blk_cell hy2 2).trans rfl; have hx2_3 : w2.cell? ⟨w.heap.size, 3, none⟩ = some (.int .i64 a0_3) := (blk_cell hx2 3).trans rfl; have hy2_3 : w2.cell? ⟨w.heap.size + 1, 3, none⟩ = some (.int .i64 z3) := (blk_cell hy2 3).trans rfl; have hx2_4 : w2.cell? ⟨w.heap.size, 4, none⟩ = some (.int .i64 a0_4) := (blk_cell hx2 4).trans rfl; have hy2_4 : w2.cell? ⟨w.heap.size + 1, 4, none⟩ = some (.int .i64 z4) := (blk_cell hy2 4).trans rfl; have hx2_5 : w2.cell? ⟨w.heap.size, 5, none⟩ = some (.string a0_5) := (blk_cell hx2 5).trans rfl; have hy2_5 : w2.cell? ⟨w.heap.size + 1, 5, none⟩ = some (.string z5) := (blk_cell hy2 5).trans rfl; have hx2_6 : w2.cell? ⟨w.heap.size, 6, none⟩ = some (.string a0_6) := (blk_cell hx2 6).trans rfl; have hy2_6 : w2.cell? ⟨w.heap.size + 1, 6, none⟩ = some (.string z6) := (blk_cell hy2 6).trans rfl; have hx2_7 : w2.cell? ⟨w.heap.size, 7, none⟩ = some (.string a0_7) := (blk_cell hx2 7).trans rfl; have hy2_7 : w2.cell? ⟨w.heap.size + 1, 7, none⟩ = some (.string z7) := (blk_cell hy2 7).trans rfl; have hx2_8 : w2.cell? ⟨w.heap.size, 8, none⟩ = some (.string a0_8) := (blk_cell hx2 8).trans rfl; have hy2_8 : w2.cell? ⟨w.heap.size + 1, 8, none⟩ = some (.string z8) := (blk_cell hy2 8).trans rfl; have hx2_9 : w2.cell? ⟨w.heap.size, 9, none⟩ = some (.int .i64 a0_9) := (blk_cell hx2 9).trans rfl; have hy2_9 : w2.cell? ⟨w.heap.size + 1, 9, none⟩ = some (.int .i64 z9) := (blk_cell hy2 9).trans rfl; have HB2 := Aside0.mk hB2; clear hx2 hy2 hI2 hB2 hK2))
    all_goals
      go_ret
      clear HK hu45
      refine ⟨?_, by repeat (first | exact HB2.out | exact Below.refl _ _ | apply pw_below_drewN | refine below_set ?_ (Nat.le_succ _) | refine Below.alloc ?_ (by first | exact Nat.le_refl _ | simp) _)⟩
      first
        | rfl
        | (simp [refEq, *]; done)
        | (simp [refEq, *]; omega)
        | (simp [refEq, *]; intros; omega)
        | (simp_all [refEq]; done)
  case true =>
    rw [if_pos rfl] at h
    obtain rfl := Option.some.inj h
    clear h
    go_enter Tryd.func74, Tryd.ntmps74
    go_wp2_with (first | (go_at_call 63; (with_reducible refine (trammelref1_kids.calls k _ _ _ HK.out).mono ?_); rintro e w' ⟨rfl, ⟨nd, rfl⟩⟩) | (go_at_call 95; refine (trammelref1_bound.calls k 2 a0_1 a0_2 a0_3 a0_4 a0_5 a0_6 a0_7 a0_8 a0_9 (w.heap.size + 1) 2 0 0 0 a0_4 (⟨#[]⟩ : ByteArray) (⟨#[]⟩ : ByteArray) (⟨#[]⟩ : ByteArray) (⟨#[]⟩ : ByteArray) a0_9 true z0 z1 z2 z3 z4 z5 z6 z7 z8 z9 w _ ⟨(blk_put (cs' := #[.int .i64 2, .int .i64 0, .int .i64 0, .int .i64 0, .int .i64 a0_4, .string (⟨#[]⟩ : ByteArray), .string (⟨#[]⟩ : ByteArray), .string (⟨#[]⟩ : ByteArray), .string (⟨#[]⟩ : ByteArray), .int .i64 a0_9]) (show (((w.alloc (.cells #[.int .i64 2, .int .i64 a0_1, .int .i64 a0_2, .int .i64 a0_3, .int .i64 a0_4, .string a0_5, .string a0_6, .string a0_7, .string a0_8, .int .i64 a0_9] 45)).alloc (.cells #[.int .i64 2, .int .i64 0, .int .i64 0, .int .i64 0, .int .i64 0, .string (⟨#[]⟩ : ByteArray), .string (⟨#[]⟩ : ByteArray), .string (⟨#[]⟩ : ByteArray), .string (⟨#[]⟩ : ByteArray), .int .i64 a0_9] 45)).drewN nd).heap[w.heap.size + 1]? = some (.cells #[.int .i64 2, .int .i64 0, .int .i64 0, .int .i64 0, .int .i64 0, .string (⟨#[]⟩ : ByteArray), .string (⟨#[]⟩ : ByteArray), .string (⟨#[]⟩ : ByteArray), .string (⟨#[]⟩ : ByteArray), .int .i64 a0_9] 45 (0, 0)) from blk_drewN (by have h_ := blk_new (w.alloc (.cells #[.int .i64 2, .int .i64 a0_1, .int .i64 a0_2, .int .i64 a0_3, .int .i64 a0_4, .string a0_5, .string a0_6, .string a0_7, .string a0_8, .int .i64 a0_9] 45)) (.cells #[.int .i64 2, .int .i64 0, .int .i64 0, .int .i64 0, .int .i64 0, .string (⟨#[]⟩ : ByteArray), .string (⟨#[]⟩ : ByteArray), .string (⟨#[]⟩ : ByteArray), .string (⟨#[]⟩ : ByteArray), .int .i64 a0_9] 45); rwa [show (w.alloc (.cells #[.int .i64 2, .int .i64 a0_1, .int .i64 a0_2, .int .i64 a0_3, .int .i64 a0_4, .string a0_5, .string a0_6, .string a0_7, .string a0_8, .int .i64 a0_9] 45)).heap.size = w.heap.size + 1 from by simp] at h_) nd) 4 (.int .i64 a0_4) rfl), Nat.le_succ _⟩ (by repeat (first | exact Below.refl _ _ | apply pw_below_drewN | refine below_set ?_ (Nat.le_succ _) | refine Below.alloc ?_ (by first | exact Nat.le_refl _ | simp) _)) HZ.out).mono ?_; rintro e w2 ⟨rfl, hI2, hB2, hK2⟩; have hx2 := blk_keep hK2 (blk_far (p := ⟨w.heap.size + 1, 4, none⟩) (show (((w.alloc (.cells #[.int .i64 2, .int .i64 a0_1, .int .i64 a0_2, .int .i64 a0_3, .int .i64 a0_4, .string a0_5, .string a0_6, .string a0_7, .string a0_8, .int .i64 a0_9] 45)).alloc (.cells #[.int .i64 2, .int .i64 0, .int .i64 0, .int .i64 0, .int .i64 0, .string (⟨#[]⟩ : ByteArray), .string (⟨#[]⟩ : ByteArray), .string (⟨#[]⟩ : ByteArray), .string (⟨#[]⟩ : ByteArray), .int .i64 a0_9] 45)).drewN nd).heap[w.heap.size]? = some (.cells #[.int .i64 2, .int .i64 a0_1, .int .i64 a0_2, .int .i64 a0_3, .int .i64 a0_4, .string a0_5, .string a0_6, .string a0_7, .string a0_8, .int .i64 a0_9] 45 (0, 0)) from blk_drewN (blk_alloc (blk_new w _) _) nd) (Nat.ne_of_lt (Nat.lt_succ_self _)) (.int .i64 a0_4)) (Nat.ne_of_lt (Nat.lt_succ_self _)); have hy2 := hI2.1; have hx2_0 : w2.cell? ⟨w.heap.size, 0, none⟩ = some (.int .i64 2) := (blk_cell hx2 0).trans rfl; have hy2_0 : w2.cell? ⟨w.heap.size + 1, 0, none⟩ = some (.int .i64 z0) := (blk_cell hy2 0).trans rfl; have hx2_1 : w2.cell? ⟨w.heap.size, 1, none⟩ = some (.int .i64 a0_1) := (blk_cell hx2 1).trans rfl; have hy2_1 : w2.cell? ⟨w.heap.size + 1, 1, none⟩ = some (.int .i64 z1) := (blk_cell hy2 1).trans rfl; have hx2_2 : w2.cell? ⟨w.heap.size, 2, none⟩ = some (.int .i64 a0_2) := (blk_cell hx2 2).trans rfl; have hy2_2 : w2.cell? ⟨w.heap.size + 1, 2, none⟩ = some (.int .i64 z2) := (blk_cell hy2 2).trans rfl; have hx2_3 : w2.cell? ⟨w.heap.size, 3, none⟩ = some (.int .i64 a0_3) := (blk_cell hx2 3).trans rfl; have hy2_3 : w2.cell? ⟨w.heap.size + 1, 3, none⟩ = some (.int .i64 z3) := (blk_cell hy2 3).trans rfl; have hx2_4 : w2.cell? ⟨w.heap.size, 4, none⟩ = some (.int .i64 a0_4) := (blk_cell hx2 4).trans rfl; have hy2_4 : w2.cell? ⟨w.heap.size + 1, 4, none⟩ = some (.int .i64 z4) := (blk_cell hy2 4).trans rfl; have hx2_5 : w2.cell? ⟨w.heap.size, 5, none⟩ = some (.string a0_5) := (blk_cell hx2 5).trans rfl; have hy2_5 : w2.cell? ⟨w.heap.size + 1, 5, none⟩ = some (.string z5) := (blk_cell hy2 5).trans rfl; have hx2_6 : w2.cell? ⟨w.heap.size, 6, none⟩ = some (.string a0_6) := (blk_cell hx2 6).trans rfl; have hy2_6 : w2.cell? ⟨w.heap.size + 1, 6, none⟩ = some (.string z6) := (blk_cell hy2 6).trans rfl; have hx2_7 : w2.cell? ⟨w.heap.size, 7, none⟩ = some (.string a0_7) := (blk_cell hx2 7).trans rfl; have hy2_7 : w2.cell? ⟨w.heap.size + 1, 7, none⟩ = some (.string z7) := (blk_cell hy2 7).trans rfl; have hx2_8 : w2.cell? ⟨w.heap.size, 8, none⟩ = some (.string a0_8) := (blk_cell hx2 8).trans rfl; have hy2_8 : w2.cell? ⟨w.heap.size + 1, 8, none⟩ = some (.string z8) := (blk_cell hy2 8).trans rfl; have hx2_9 : w2.cell? ⟨w.heap.size, 9, none⟩ = some (.int .i64 a0_9) := (blk_cell hx2 9).trans rfl; have hy2_9 : w2.cell? ⟨w.heap.size + 1, 9, none⟩ = some (.int .i64 z9) := (blk_cell hy2 9).trans rfl; have HB2 := Aside0.mk hB2; clear hx2 hy2 hI2 hB2 hK2))
    all_goals
      go_ret
      clear HK hu45
      refine ⟨?_, by repeat (first | exact HB2.out | exact Below.refl _ _ | apply pw_below_drewN | refine below_set ?_ (Nat.le_succ _) | refine Below.alloc ?_ (by first | exact Nat.le_refl _ | simp) _)⟩
      first
        | rfl
        | (simp [refEq, *]; done)
        | (simp [refEq, *]; omega)
        | (simp [refEq, *]; intros; omega)
        | (simp_all [refEq]; done)
set_option maxRecDepth 100000 in
set_option maxHeartbeats 8000000 in
theorem fields_3_false (k : Nat) (a0_0 a0_1 a0_2 a0_3 a0_4 : Int) (a0_5 a0_6 a0_7 a0_8 : ByteArray) (a0_9 : Int) (r : Bool) (w : World) (hk : a0_0 = 3) (h : trammelref1_fields.f k a0_0 a0_1 a0_2 a0_3 a0_4 a0_5 a0_6 a0_7 a0_8 a0_9 false = some r) :
    Calls Tryd.prog 74 #[.agg #[.int .i64 a0_0, .int .i64 a0_1, .int .i64 a0_2, .int .i64 a0_3, .int .i64 a0_4, .string a0_5, .string a0_6, .string a0_7, .string a0_8, .int .i64 a0_9], .bool false] w fun e w' => e = .returned (.bool r) ∧ Below w.heap.size w w' := by
  have hu45 := Tryd.underlying45
  subst hk
  have hy : refY ⟨3, a0_1, a0_2, a0_3, a0_4, a0_5, a0_6, a0_7, a0_8, a0_9⟩ false = (⟨3, a0_1, 0, 0, 0, (⟨#[]⟩ : ByteArray), (⟨#[]⟩ : ByteArray), (⟨#[]⟩ : ByteArray), (⟨#[]⟩ : ByteArray), a0_9⟩ : S45) := by rfl
  unfold trammelref1_fields.f at h
  dsimp only at h
  rw [hy] at h
  replace h := Option.bind_eq_some_iff.mp h
  obtain ⟨c, hc, h⟩ := h
  have hc3 := refKids_is hc
  replace hc3 : c = 1 := hc3.trans (by decide)
  subst hc3
  have HK := Aside0.mk hc
  clear hc hy
  rw [if_neg (by decide), Option.bind_some, if_pos rfl] at h
  dsimp only at h
  obtain rfl := Option.some.inj h
  clear h
  go_enter Tryd.func74, Tryd.ntmps74
  go_wp2_with (go_at_call 63; (with_reducible refine (trammelref1_kids.calls k _ _ _ HK.out).mono ?_); rintro e w' ⟨rfl, ⟨nd, rfl⟩⟩)
  all_goals
    go_ret
    clear HK hu45
    refine ⟨?_, by repeat (first | exact Below.refl _ _ | apply pw_below_drewN | refine below_set ?_ (Nat.le_succ _) | refine Below.alloc ?_ (by first | exact Nat.le_refl _ | simp) _)⟩
    first
      | rfl
      | (simp [refEq, *]; done)
      | (simp [refEq, *]; omega)
      | (simp [refEq, *]; intros; omega)
      | (simp_all [refEq]; done)
end Go.Proofs.YtnogfhhfklkbiaaDoor.H

namespace Go.Proofs.YtnogfhhfklkbiaaDoor.H
open Go.RowKit Go.Proofs.YtnogfhhfklkbiaaDoorW.PrintWords Go.Proofs.YtnogfhhfklkbiaaDoorW.PrintLast Go.Proofs.YtnogfhhfklkbiaaDoorW.PrintMore
attribute [local go_sem] max2_int min2_int max_two min_two max_three min_three max_four min_four
set_option linter.unusedVariables false
set_option linter.unusedSimpArgs false
attribute [local go_sem high] eqA45
set_option maxRecDepth 100000 in
set_option maxHeartbeats 8000000 in
theorem fields_3_true (k : Nat) (a0_0 a0_1 a0_2 a0_3 a0_4 : Int) (a0_5 a0_6 a0_7 a0_8 : ByteArray) (a0_9 : Int) (r : Bool) (w : World) (hk : a0_0 = 3) (h : trammelref1_fields.f k a0_0 a0_1 a0_2 a0_3 a0_4 a0_5 a0_6 a0_7 a0_8 a0_9 true = some r) :
    Calls Tryd.prog 74 #[.agg #[.int .i64 a0_0, .int .i64 a0_1, .int .i64 a0_2, .int .i64 a0_3, .int .i64 a0_4, .string a0_5, .string a0_6, .string a0_7, .string a0_8, .int .i64 a0_9], .bool true] w fun e w' => e = .returned (.bool r) ∧ Below w.heap.size w w' := by
  have hu45 := Tryd.underlying45
  subst hk
  have hy : refY ⟨3, a0_1, a0_2, a0_3, a0_4, a0_5, a0_6, a0_7, a0_8, a0_9⟩ true = (⟨3, a0_1, 0, 0, 0, (⟨#[]⟩ : ByteArray), (⟨#[]⟩ : ByteArray), (⟨#[]⟩ : ByteArray), (⟨#[]⟩ : ByteArray), a0_9⟩ : S45) := by rfl
  unfold trammelref1_fields.f at h
  dsimp only at h
  rw [hy] at h
  replace h := Option.bind_eq_some_iff.mp h
  obtain ⟨c, hc, h⟩ := h
  have hc3 := refKids_is hc
  replace hc3 : c = 1 := hc3.trans (by decide)
  subst hc3
  have HK := Aside0.mk hc
  clear hc hy
  replace h := Option.bind_eq_some_iff.mp h
  obtain ⟨⟨ok, z0, z1, z2, z3, z4, z5, z6, z7, z8, z9⟩, hz, h⟩ := h
  rw [if_pos rfl] at hz
  have HZ := Aside0.mk (show trammelref1_bound.f k 3 a0_1 a0_2 a0_3 a0_4 a0_5 a0_6 a0_7 a0_8 a0_9 3 a0_1 0 0 0 (⟨#[]⟩ : ByteArray) (⟨#[]⟩ : ByteArray) (⟨#[]⟩ : ByteArray) (⟨#[]⟩ : ByteArray) a0_9 = some (ok, z0, z1, z2, z3, z4, z5, z6, z7, z8, z9) from hz)
  clear hz
  dsimp only at h
  cases ok
  case false =>
    rw [if_neg (by decide)] at h
    obtain rfl := Option.some.inj h
    clear h
    go_enter Tryd.func74, Tryd.ntmps74
    go_wp2_with (first | (go_at_call 63; (with_reducible refine (trammelref1_kids.calls k _ _ _ HK.out).mono ?_); rintro e w' ⟨rfl, ⟨nd, rfl⟩⟩) | (go_at_call 95; refine (trammelref1_bound.calls k 3 a0_1 a0_2 a0_3 a0_4 a0_5 a0_6 a0_7 a0_8 a0_9 (w.heap.size + 1) 3 a0_1 0 0 0 (⟨#[]⟩ : ByteArray) (⟨#[]⟩ : ByteArray) (⟨#[]⟩ : ByteArray) (⟨#[]⟩ : ByteArray) a0_9 false z0 z1 z2 z3 z4 z5 z6 z7 z8 z9 w _ ⟨(blk_put (cs' := #[.int .i64 3, .int .i64 a0_1, .int .i64 0, .int .i64 0, .int .i64 0, .string (⟨#[]⟩ : ByteArray), .string (⟨#[]⟩ : ByteArray), .string (⟨#[]⟩ : ByteArray), .string (⟨#[]⟩ : ByteArray), .int .i64 a0_9]) (show (((w.alloc (.cells #[.int .i64 3, .int .i64 a0_1, .int .i64 a0_2, .int .i64 a0_3, .int .i64 a0_4, .string a0_5, .string a0_6, .string a0_7, .string a0_8, .int .i64 a0_9] 45)).alloc (.cells #[.int .i64 3, .int .i64 0, .int .i64 0, .int .i64 0, .int .i64 0, .string (⟨#[]⟩ : ByteArray), .string (⟨#[]⟩ : ByteArray), .string (⟨#[]⟩ : ByteArray), .string (⟨#[]⟩ : ByteArray), .int .i64 a0_9] 45)).drewN nd).heap[w.heap.size + 1]? = some (.cells #[.int .i64 3, .int .i64 0, .int .i64 0, .int .i64 0, .int .i64 0, .string (⟨#[]⟩ : ByteArray), .string (⟨#[]⟩ : ByteArray), .string (⟨#[]⟩ : ByteArray), .string (⟨#[]⟩ : ByteArray), .int .i64 a0_9] 45 (0, 0)) from blk_drewN (by have h_ := blk_new (w.alloc (.cells #[.int .i64 3, .int .i64 a0_1, .int .i64 a0_2, .int .i64 a0_3, .int .i64 a0_4, .string a0_5, .string a0_6, .string a0_7, .string a0_8, .int .i64 a0_9] 45)) (.cells #[.int .i64 3, .int .i64 0, .int .i64 0, .int .i64 0, .int .i64 0, .string (⟨#[]⟩ : ByteArray), .string (⟨#[]⟩ : ByteArray), .string (⟨#[]⟩ : ByteArray), .string (⟨#[]⟩ : ByteArray), .int .i64 a0_9] 45); rwa [show (w.alloc (.cells #[.int .i64 3, .int .i64 a0_1, .int .i64 a0_2, .int .i64 a0_3, .int .i64 a0_4, .string a0_5, .string a0_6, .string a0_7, .string a0_8, .int .i64 a0_9] 45)).heap.size = w.heap.size + 1 from by simp] at h_) nd) 1 (.int .i64 a0_1) rfl), Nat.le_succ _⟩ (by repeat (first | exact Below.refl _ _ | apply pw_below_drewN | refine below_set ?_ (Nat.le_succ _) | refine Below.alloc ?_ (by first | exact Nat.le_refl _ | simp) _)) HZ.out).mono ?_; rintro e w2 ⟨rfl, hI2, hB2, hK2⟩; have hx2 := blk_keep hK2 (blk_far (p := ⟨w.heap.size + 1, 1, none⟩) (show (((w.alloc (.cells #[.int .i64 3, .int .i64 a0_1, .int .i64 a0_2, .int .i64 a0_3, .int .i64 a0_4, .string a0_5, .string a0_6, .string a0_7, .string a0_8, .int .i64 a0_9] 45)).alloc (.cells #[.int .i64 3, .int .i64 0, .int .i64 0, .int .i64 0, .int .i64 0, .string (⟨#[]⟩ : ByteArray), .string (⟨#[]⟩ : ByteArray), .string (⟨#[]⟩ : ByteArray), .string (⟨#[]⟩ : ByteArray), .int .i64 a0_9] 45)).drewN nd).heap[w.heap.size]? = some (.cells #[.int .i64 3, .int .i64 a0_1, .int .i64 a0_2, .int .i64 a0_3, .int .i64 a0_4, .string a0_5, .string a0_6, .string a0_7, .string a0_8, .int .i64 a0_9] 45 (0, 0)) from blk_drewN (blk_alloc (blk_new w _) _) nd) (Nat.ne_of_lt (Nat.lt_succ_self _)) (.int .i64 a0_1)) (Nat.ne_of_lt (Nat.lt_succ_self _)); have hy2 := hI2.1; have hx2_0 : w2.cell? ⟨w.heap.size, 0, none⟩ = some (.int .i64 3) := (blk_cell hx2 0).trans rfl; have hy2_0 : w2.cell? ⟨w.heap.size + 1, 0, none⟩ = some (.int .i64 z0) := (blk_cell hy2 0).trans rfl; have hx2_1 : w2.cell? ⟨w.heap.size, 1, none⟩ = some (.int .i64 a0_1) := (blk_cell hx2 1).trans rfl; have hy2_1 : w2.cell? ⟨w.heap.size + 1, 1, none⟩ = some (.int .i64 z1) := (blk_cell hy2 1).trans rfl; have hx2_2 : w2.cell? ⟨w.heap.size, 2, none⟩ = some (.int .i64 a0_2) := (blk_cell hx2 2).trans rfl; have hy2_2 : w2.cell? ⟨w.heap.size + 1, 2, none⟩ = some (.int .i64 z2) := (blk_cell hy2 2).trans rfl; have hx2_3 : w2.cell? ⟨w.heap.size, 3, none⟩ = some (.int .i64 a0_3) := (blk_cell hx2 3).trans rfl; have hy2_3 : w2.cell? ⟨w.heap.size + 1, 3, none⟩ = some (.int .i64 z3) := (blk_cell hy2 3).trans rfl; have hx2_4 : w2.cell? ⟨w.heap.size, 4, none⟩ = some (.int .i64 a0_4) := (blk_cell hx2 4).trans rfl; have hy2_4 : w2.cell? ⟨w.heap.size + 1, 4, none⟩ = some (.int .i64 z4) := (blk_cell hy2 4).trans rfl; have hx2_5 : w2.cell? ⟨w.heap.size, 5, none⟩ = some (.string a0_5) := (blk_cell hx2 5).trans rfl; have hy2_5 : w2.cell? ⟨w.heap.size + 1, 5, none⟩ = some (.string z5) := (blk_cell hy2 5).trans rfl; have hx2_6 : w2.cell? ⟨w.heap.size, 6, none⟩ = some (.string a0_6) := (blk_cell hx2 6).trans rfl; have hy2_6 : w2.cell? ⟨w.heap.size + 1, 6, none⟩ = some (.string z6) := (blk_cell hy2 6).trans rfl; have hx2_7 : w2.cell? ⟨w.heap.size, 7, none⟩ = some (.string a0_7) := (blk_cell hx2 7).trans rfl; have hy2_7 : w2.cell? ⟨w.heap.size + 1, 7, none⟩ = some (.string z7) := (blk_cell hy2 7).trans rfl; have hx2_8 : w2.cell? ⟨w.heap.size, 8, none⟩ = some (.string a0_8) := (blk_cell hx2 8).trans rfl; have hy2_8 : w2.cell? ⟨w.heap.size + 1, 8, none⟩ = some (.string z8) := (blk_cell hy2 8).trans rfl; have hx2_9 : w2.cell? ⟨w.heap.size, 9, none⟩ = some (.int .i64 a0_9) := (blk_cell hx2 9).trans rfl; have hy2_9 : w2.cell? ⟨w.heap.size + 1, 9, none⟩ = some (.int .i64 z9) := (blk_cell hy2 9).trans rfl; have HB2 := Aside0.mk hB2; clear hx2 hy2 hI2 hB2 hK2))
    all_goals
      go_ret
      clear HK hu45
      refine ⟨?_, by repeat (first | exact HB2.out | exact Below.refl _ _ | apply pw_below_drewN | refine below_set ?_ (Nat.le_succ _) | refine Below.alloc ?_ (by first | exact Nat.le_refl _ | simp) _)⟩
      first
        | rfl
        | (simp [refEq, *]; done)
        | (simp [refEq, *]; omega)
        | (simp [refEq, *]; intros; omega)
        | (simp_all [refEq]; done)
  case true =>
    rw [if_pos rfl] at h
    obtain rfl := Option.some.inj h
    clear h
    go_enter Tryd.func74, Tryd.ntmps74
    go_wp2_with (first | (go_at_call 63; (with_reducible refine (trammelref1_kids.calls k _ _ _ HK.out).mono ?_); rintro e w' ⟨rfl, ⟨nd, rfl⟩⟩) | (go_at_call 95; refine (trammelref1_bound.calls k 3 a0_1 a0_2 a0_3 a0_4 a0_5 a0_6 a0_7 a0_8 a0_9 (w.heap.size + 1) 3 a0_1 0 0 0 (⟨#[]⟩ : ByteArray) (⟨#[]⟩ : ByteArray) (⟨#[]⟩ : ByteArray) (⟨#[]⟩ : ByteArray) a0_9 true z0 z1 z2 z3 z4 z5 z6 z7 z8 z9 w _ ⟨(blk_put (cs' := #[.int .i64 3, .int .i64 a0_1, .int .i64 0, .int .i64 0, .int .i64 0, .string (⟨#[]⟩ : ByteArray), .string (⟨#[]⟩ : ByteArray), .string (⟨#[]⟩ : ByteArray), .string (⟨#[]⟩ : ByteArray), .int .i64 a0_9]) (show (((w.alloc (.cells #[.int .i64 3, .int .i64 a0_1, .int .i64 a0_2, .int .i64 a0_3, .int .i64 a0_4, .string a0_5, .string a0_6, .string a0_7, .string a0_8, .int .i64 a0_9] 45)).alloc (.cells #[.int .i64 3, .int .i64 0, .int .i64 0, .int .i64 0, .int .i64 0, .string (⟨#[]⟩ : ByteArray), .string (⟨#[]⟩ : ByteArray), .string (⟨#[]⟩ : ByteArray), .string (⟨#[]⟩ : ByteArray), .int .i64 a0_9] 45)).drewN nd).heap[w.heap.size + 1]? = some (.cells #[.int .i64 3, .int .i64 0, .int .i64 0, .int .i64 0, .int .i64 0, .string (⟨#[]⟩ : ByteArray), .string (⟨#[]⟩ : ByteArray), .string (⟨#[]⟩ : ByteArray), .string (⟨#[]⟩ : ByteArray), .int .i64 a0_9] 45 (0, 0)) from blk_drewN (by have h_ := blk_new (w.alloc (.cells #[.int .i64 3, .int .i64 a0_1, .int .i64 a0_2, .int .i64 a0_3, .int .i64 a0_4, .string a0_5, .string a0_6, .string a0_7, .string a0_8, .int .i64 a0_9] 45)) (.cells #[.int .i64 3, .int .i64 0, .int .i64 0, .int .i64 0, .int .i64 0, .string (⟨#[]⟩ : ByteArray), .string (⟨#[]⟩ : ByteArray), .string (⟨#[]⟩ : ByteArray), .string (⟨#[]⟩ : ByteArray), .int .i64 a0_9] 45); rwa [show (w.alloc (.cells #[.int .i64 3, .int .i64 a0_1, .int .i64 a0_2, .int .i64 a0_3, .int .i64 a0_4, .string a0_5, .string a0_6, .string a0_7, .string a0_8, .int .i64 a0_9] 45)).heap.size = w.heap.size + 1 from by simp] at h_) nd) 1 (.int .i64 a0_1) rfl), Nat.le_succ _⟩ (by repeat (first | exact Below.refl _ _ | apply pw_below_drewN | refine below_set ?_ (Nat.le_succ _) | refine Below.alloc ?_ (by first | exact Nat.le_refl _ | simp) _)) HZ.out).mono ?_; rintro e w2 ⟨rfl, hI2, hB2, hK2⟩; have hx2 := blk_keep hK2 (blk_far (p := ⟨w.heap.size + 1, 1, none⟩) (show (((w.alloc (.cells #[.int .i64 3, .int .i64 a0_1, .int .i64 a0_2, .int .i64 a0_3, .int .i64 a0_4, .string a0_5, .string a0_6, .string a0_7, .string a0_8, .int .i64 a0_9] 45)).alloc (.cells #[.int .i64 3, .int .i64 0, .int .i64 0, .int .i64 0, .int .i64 0, .string (⟨#[]⟩ : ByteArray), .string (⟨#[]⟩ : ByteArray), .string (⟨#[]⟩ : ByteArray), .string (⟨#[]⟩ : ByteArray), .int .i64 a0_9] 45)).drewN nd).heap[w.heap.size]? = some (.cells #[.int .i64 3, .int .i64 a0_1, .int .i64 a0_2, .int .i64 a0_3, .int .i64 a0_4, .string a0_5, .string a0_6, .string a0_7, .string a0_8, .int .i64 a0_9] 45 (0, 0)) from blk_drewN (blk_alloc (blk_new w _) _) nd) (Nat.ne_of_lt (Nat.lt_succ_self _)) (.int .i64 a0_1)) (Nat.ne_of_lt (Nat.lt_succ_self _)); have hy2 := hI2.1; have hx2_0 : w2.cell? ⟨w.heap.size, 0, none⟩ = some (.int .i64 3) := (blk_cell hx2 0).trans rfl; have hy2_0 : w2.cell? ⟨w.heap.size + 1, 0, none⟩ = some (.int .i64 z0) := (blk_cell hy2 0).trans rfl; have hx2_1 : w2.cell? ⟨w.heap.size, 1, none⟩ = some (.int .i64 a0_1) := (blk_cell hx2 1).trans rfl; have hy2_1 : w2.cell? ⟨w.heap.size + 1, 1, none⟩ = some (.int .i64 z1) := (blk_cell hy2 1).trans rfl; have hx2_2 : w2.cell? ⟨w.heap.size, 2, none⟩ = some (.int .i64 a0_2) := (blk_cell hx2 2).trans rfl; have hy2_2 : w2.cell? ⟨w.heap.size + 1, 2, none⟩ = some (.int .i64 z2) := (blk_cell hy2 2).trans rfl; have hx2_3 : w2.cell? ⟨w.heap.size, 3, none⟩ = some (.int .i64 a0_3) := (blk_cell hx2 3).trans rfl; have hy2_3 : w2.cell? ⟨w.heap.size + 1, 3, none⟩ = some (.int .i64 z3) := (blk_cell hy2 3).trans rfl; have hx2_4 : w2.cell? ⟨w.heap.size, 4, none⟩ = some (.int .i64 a0_4) := (blk_cell hx2 4).trans rfl; have hy2_4 : w2.cell? ⟨w.heap.size + 1, 4, none⟩ = some (.int .i64 z4) := (blk_cell hy2 4).trans rfl; have hx2_5 : w2.cell? ⟨w.heap.size, 5, none⟩ = some (.string a0_5) := (blk_cell hx2 5).trans rfl; have hy2_5 : w2.cell? ⟨w.heap.size + 1, 5, none⟩ = some (.string z5) := (blk_cell hy2 5).trans rfl; have hx2_6 : w2.cell? ⟨w.heap.size, 6, none⟩ = some (.string a0_6) := (blk_cell hx2 6).trans rfl; have hy2_6 : w2.cell? ⟨w.heap.size + 1, 6, none⟩ = some (.string z6) := (blk_cell hy2 6).trans rfl; have hx2_7 : w2.cell? ⟨w.heap.size, 7, none⟩ = some (.string a0_7) := (blk_cell hx2 7).trans rfl; have hy2_7 : w2.cell? ⟨w.heap.size + 1, 7, none⟩ = some (.string z7) := (blk_cell hy2 7).trans rfl; have hx2_8 : w2.cell? ⟨w.heap.size, 8, none⟩ = some (.string a0_8) := (blk_cell hx2 8).trans rfl; have hy2_8 : w2.cell? ⟨w.heap.size + 1, 8, none⟩ = some (.string z8) := (blk_cell hy2 8).trans rfl; have hx2_9 : w2.cell? ⟨w.heap.size, 9, none⟩ = some (.int .i64 a0_9) := (blk_cell hx2 9).trans rfl; have hy2_9 : w2.cell? ⟨w.heap.size + 1, 9, none⟩ = some (.int .i64 z9) := (blk_cell hy2 9).trans rfl; have HB2 := Aside0.mk hB2; clear hx2 hy2 hI2 hB2 hK2))
    all_goals
      go_ret
      clear HK hu45
      refine ⟨?_, by repeat (first | exact HB2.out | exact Below.refl _ _ | apply pw_below_drewN | refine below_set ?_ (Nat.le_succ _) | refine Below.alloc ?_ (by first | exact Nat.le_refl _ | simp) _)⟩
      first
        | rfl
        | (simp [refEq, *]; done)
        | (simp [refEq, *]; omega)
        | (simp [refEq, *]; intros; omega)
        | (simp_all [refEq]; done)
set_option maxRecDepth 100000 in
set_option maxHeartbeats 8000000 in
theorem fields_4_false (k : Nat) (a0_0 a0_1 a0_2 a0_3 a0_4 : Int) (a0_5 a0_6 a0_7 a0_8 : ByteArray) (a0_9 : Int) (r : Bool) (w : World) (hk : a0_0 = 4) (h : trammelref1_fields.f k a0_0 a0_1 a0_2 a0_3 a0_4 a0_5 a0_6 a0_7 a0_8 a0_9 false = some r) :
    Calls Tryd.prog 74 #[.agg #[.int .i64 a0_0, .int .i64 a0_1, .int .i64 a0_2, .int .i64 a0_3, .int .i64 a0_4, .string a0_5, .string a0_6, .string a0_7, .string a0_8, .int .i64 a0_9], .bool false] w fun e w' => e = .returned (.bool r) ∧ Below w.heap.size w w' := by
  have hu45 := Tryd.underlying45
  subst hk
  have hy : refY ⟨4, a0_1, a0_2, a0_3, a0_4, a0_5, a0_6, a0_7, a0_8, a0_9⟩ false = (⟨4, a0_1, a0_2, 0, 0, (⟨#[]⟩ : ByteArray), (⟨#[]⟩ : ByteArray), (⟨#[]⟩ : ByteArray), (⟨#[]⟩ : ByteArray), a0_9⟩ : S45) := by rfl
  unfold trammelref1_fields.f at h
  dsimp only at h
  rw [hy] at h
  replace h := Option.bind_eq_some_iff.mp h
  obtain ⟨c, hc, h⟩ := h
  have hc3 := refKids_is hc
  replace hc3 : c = 2 := hc3.trans (by decide)
  subst hc3
  have HK := Aside0.mk hc
  clear hc hy
  rw [if_neg (by decide), Option.bind_some, if_pos rfl] at h
  dsimp only at h
  obtain rfl := Option.some.inj h
  clear h
  go_enter Tryd.func74, Tryd.ntmps74
  go_wp2_with (go_at_call 63; (with_reducible refine (trammelref1_kids.calls k _ _ _ HK.out).mono ?_); rintro e w' ⟨rfl, ⟨nd, rfl⟩⟩)
  all_goals
    go_ret
    clear HK hu45
    refine ⟨?_, by repeat (first | exact Below.refl _ _ | apply pw_below_drewN | refine below_set ?_ (Nat.le_succ _) | refine Below.alloc ?_ (by first | exact Nat.le_refl _ | simp) _)⟩
    first
      | rfl
      | (simp [refEq, *]; done)
      | (simp [refEq, *]; omega)
      | (simp [refEq, *]; intros; omega)
      | (simp_all [refEq]; done)
set_option maxRecDepth 100000 in
set_option maxHeartbeats 8000000 in
theorem fields_4_true (k : Nat) (a0_0 a0_1 a0_2 a0_3 a0_4 : Int) (a0_5 a0_6 a0_7 a0_8 : ByteArray) (a0_9 : Int) (r : Bool) (w : World) (hk : a0_0 = 4) (h : trammelref1_fields.f k a0_0 a0_1 a0_2 a0_3 a0_4 a0_5 a0_6 a0_7 a0_8 a0_9 true = some r) :
    Calls Tryd.prog 74 #[.agg #[.int .i64 a0_0, .int .i64 a0_1, .int .i64 a0_2, .int .i64 a0_3, .int .i64 a0_4, .string a0_5, .string a0_6, .string a0_7, .string a0_8, .int .i64 a0_9], .bool true] w fun e w' => e = .returned (.bool r) ∧ Below w.heap.size w w' := by
  have hu45 := Tryd.underlying45
  subst hk
  have hy : refY ⟨4, a0_1, a0_2, a0_3, a0_4, a0_5, a0_6, a0_7, a0_8, a0_9⟩ true = (⟨4, a0_1, a0_2, 0, 0, (⟨#[]⟩ : ByteArray), (⟨#[]⟩ : ByteArray), (⟨#[]⟩ : ByteArray), (⟨#[]⟩ : ByteArray), a0_9⟩ : S45) := by rfl
  unfold trammelref1_fields.f at h
  dsimp only at h
  rw [hy] at h
  replace h := Option.bind_eq_some_iff.mp h
  obtain ⟨c, hc, h⟩ := h
  have hc3 := refKids_is hc
  replace hc3 : c = 2 := hc3.trans (by decide)
  subst hc3
  have HK := Aside0.mk hc
  clear hc hy
  replace h := Option.bind_eq_some_iff.mp h
  obtain ⟨⟨ok, z0, z1, z2, z3, z4, z5, z6, z7, z8, z9⟩, hz, h⟩ := h
  rw [if_pos rfl] at hz
  have HZ := Aside0.mk (show trammelref1_bound.f k 4 a0_1 a0_2 a0_3 a0_4 a0_5 a0_6 a0_7 a0_8 a0_9 4 a0_1 a0_2 0 0 (⟨#[]⟩ : ByteArray) (⟨#[]⟩ : ByteArray) (⟨#[]⟩ : ByteArray) (⟨#[]⟩ : ByteArray) a0_9 = some (ok, z0, z1, z2, z3, z4, z5, z6, z7, z8, z9) from hz)
  clear hz
  dsimp only at h
  cases ok
  case false =>
    rw [if_neg (by decide)] at h
    obtain rfl := Option.some.inj h
    clear h
    go_enter Tryd.func74, Tryd.ntmps74
    go_wp2_with (first | (go_at_call 63; (with_reducible refine (trammelref1_kids.calls k _ _ _ HK.out).mono ?_); rintro e w' ⟨rfl, ⟨nd, rfl⟩⟩) | (go_at_call 95; refine (trammelref1_bound.calls k 4 a0_1 a0_2 a0_3 a0_4 a0_5 a0_6 a0_7 a0_8 a0_9 (w.heap.size + 1) 4 a0_1 a0_2 0 0 (⟨#[]⟩ : ByteArray) (⟨#[]⟩ : ByteArray) (⟨#[]⟩ : ByteArray) (⟨#[]⟩ : ByteArray) a0_9 false z0 z1 z2 z3 z4 z5 z6 z7 z8 z9 w _ ⟨(blk_put (cs' := #[.int .i64 4, .int .i64 a0_1, .int .i64 a0_2, .int .i64 0, .int .i64 0, .string (⟨#[]⟩ : ByteArray), .string (⟨#[]⟩ : ByteArray), .string (⟨#[]⟩ : ByteArray), .string (⟨#[]⟩ : ByteArray), .int .i64 a0_9]) (blk_put (cs' := #[.int .i64 4, .int .i64 a0_1, .int .i64 0, .int .i64 0, .int .i64 0, .string (⟨#[]⟩ : ByteArray), .string (⟨#[]⟩ : ByteArray), .string (⟨#[]⟩ : ByteArray), .string (⟨#[]⟩ : ByteArray), .int .i64 a0_9]) (show (((w.alloc (.cells #[.int .i64 4, .int .i64 a0_1, .int .i64 a0_2, .int .i64 a0_3, .int .i64 a0_4, .string a0_5, .string a0_6, .string a0_7, .string a0_8, .int .i64 a0_9] 45)).alloc (.cells #[.int .i64 4, .int .i64 0, .int .i64 0, .int .i64 0, .int .i64 0, .string (⟨#[]⟩ : ByteArray), .string (⟨#[]⟩ : ByteArray), .string (⟨#[]⟩ : ByteArray), .string (⟨#[]⟩ : ByteArray), .int .i64 a0_9] 45)).drewN nd).heap[w.heap.size + 1]? = some (.cells #[.int .i64 4, .int .i64 0, .int .i64 0, .int .i64 0, .int .i64 0, .string (⟨#[]⟩ : ByteArray), .string (⟨#[]⟩ : ByteArray), .string (⟨#[]⟩ : ByteArray), .string (⟨#[]⟩ : ByteArray), .int .i64 a0_9] 45 (0, 0)) from blk_drewN (by have h_ := blk_new (w.alloc (.cells #[.int .i64 4, .int .i64 a0_1, .int .i64 a0_2, .int .i64 a0_3, .int .i64 a0_4, .string a0_5, .string a0_6, .string a0_7, .string a0_8, .int .i64 a0_9] 45)) (.cells #[.int .i64 4, .int .i64 0, .int .i64 0, .int .i64 0, .int .i64 0, .string (⟨#[]⟩ : ByteArray), .string (⟨#[]⟩ : ByteArray), .string (⟨#[]⟩ : ByteArray), .string (⟨#[]⟩ : ByteArray), .int .i64 a0_9] 45); rwa [show (w.alloc (.cells #[.int .i64 4, .int .i64 a0_1, .int .i64 a0_2, .int .i64 a0_3, .int .i64 a0_4, .string a0_5, .string a0_6, .string a0_7, .string a0_8, .int .i64 a0_9] 45)).heap.size = w.heap.size + 1 from by simp] at h_) nd) 1 (.int .i64 a0_1) rfl) 2 (.int .i64 a0_2) rfl), Nat.le_succ _⟩ (by repeat (first | exact Below.refl _ _ | apply pw_below_drewN | refine below_set ?_ (Nat.le_succ _) | refine Below.alloc ?_ (by first | exact Nat.le_refl _ | simp) _)) HZ.out).mono ?_; rintro e w2 ⟨rfl, hI2, hB2, hK2⟩; have hx2 := blk_keep hK2 (blk_far (p := ⟨w.heap.size + 1, 2, none⟩) (blk_far (p := ⟨w.heap.size + 1, 1, none⟩) (show (((w.alloc (.cells #[.int .i64 4, .int .i64 a0_1, .int .i64 a0_2, .int .i64 a0_3, .int .i64 a0_4, .string a0_5, .string a0_6, .string a0_7, .string a0_8, .int .i64 a0_9] 45)).alloc (.cells #[.int .i64 4, .int .i64 0, .int .i64 0, .int .i64 0, .int .i64 0, .string (⟨#[]⟩ : ByteArray), .string (⟨#[]⟩ : ByteArray), .string (⟨#[]⟩ : ByteArray), .string (⟨#[]⟩ : ByteArray), .int .i64 a0_9] 45)).drewN nd).heap[w.heap.size]? = some (.cells #[.int .i64 4, .int .i64 a0_1, .int .i64 a0_2, .int .i64 a0_3, .int .i64 a0_4, .string a0_5, .string a0_6, .string a0_7, .string a0_8, .int .i64 a0_9] 45 (0, 0)) from blk_drewN (blk_alloc (blk_new w _) _) nd) (Nat.ne_of_lt (Nat.lt_succ_self _)) (.int .i64 a0_1)) (Nat.ne_of_lt (Nat.lt_succ_self _)) (.int .i64 a0_2)) (Nat.ne_of_lt (Nat.lt_succ_self _)); have hy2 := hI2.1; have hx2_0 : w2.cell? ⟨w.heap.size, 0, none⟩ = some (.int .i64 4) := (blk_cell hx2 0).trans rfl; have hy2_0 : w2.cell? ⟨w.heap.size + 1, 0, none⟩ = some (.int .i64 z0) := (blk_cell hy2 0).trans rfl; have hx2_1 : w2.cell? ⟨w.heap.size, 1, none⟩ = some (.int .i64 a0_1) := (blk_cell hx2 1).trans rfl; have hy2_1 : w2.cell? ⟨w.heap.size + 1, 1, none⟩ = some (.int .i64 z1) := (blk_cell hy2 1).trans rfl; have hx2_2 : w2.cell? ⟨w.heap.size, 2, none⟩ = some (.int .i64 a0_2) := (blk_cell hx2 2).trans rfl; have hy2_2 : w2.cell? ⟨w.heap.size + 1, 2, none⟩ = some (.int .i64 z2) := (blk_cell hy2 2).trans rfl; have hx2_3 : w2.cell? ⟨w.heap.size, 3, none⟩ = some (.int .i64 a0_3) := (blk_cell hx2 3).trans rfl; have hy2_3 : w2.cell? ⟨w.heap.size + 1, 3, none⟩ = some (.int .i64 z3) := (blk_cell hy2 3).trans rfl; have hx2_4 : w2.cell? ⟨w.heap.size, 4, none⟩ = some (.int .i64 a0_4) := (blk_cell hx2 4).trans rfl; have hy2_4 : w2.cell? ⟨w.heap.size + 1, 4, none⟩ = some (.int .i64 z4) := (blk_cell hy2 4).trans rfl; have hx2_5 : w2.cell? ⟨w.heap.size, 5, none⟩ = some (.string a0_5) := (blk_cell hx2 5).trans rfl; have hy2_5 : w2.cell? ⟨w.heap.size + 1, 5, none⟩ = some (.string z5) := (blk_cell hy2 5).trans rfl; have hx2_6 : w2.cell? ⟨w.heap.size, 6, none⟩ = some (.string a0_6) := (blk_cell hx2 6).trans rfl; have hy2_6 : w2.cell? ⟨w.heap.size + 1, 6, none⟩ = some (.string z6) := (blk_cell hy2 6).trans rfl; have hx2_7 : w2.cell? ⟨w.heap.size, 7, none⟩ = some (.string a0_7) := (blk_cell hx2 7).trans rfl; have hy2_7 : w2.cell? ⟨w.heap.size + 1, 7, none⟩ = some (.string z7) := (blk_cell hy2 7).trans rfl; have hx2_8 : w2.cell? ⟨w.heap.size, 8, none⟩ = some (.string a0_8) := (blk_cell hx2 8).trans rfl; have hy2_8 : w2.cell? ⟨w.heap.size + 1, 8, none⟩ = some (.string z8) := (blk_cell hy2 8).trans rfl; have hx2_9 : w2.cell? ⟨w.heap.size, 9, none⟩ = some (.int .i64 a0_9) := (blk_cell hx2 9).trans rfl; have hy2_9 : w2.cell? ⟨w.heap.size + 1, 9, none⟩ = some (.int .i64 z9) := (blk_cell hy2 9).trans rfl; have HB2 := Aside0.mk hB2; clear hx2 hy2 hI2 hB2 hK2))
    all_goals
      go_ret
      clear HK hu45
      refine ⟨?_, by repeat (first | exact HB2.out | exact Below.refl _ _ | apply pw_below_drewN | refine below_set ?_ (Nat.le_succ _) | refine Below.alloc ?_ (by first | exact Nat.le_refl _ | simp) _)⟩
      first
        | rfl
        | (simp [refEq, *]; done)
        | (simp [refEq, *]; omega)
        | (simp [refEq, *]; intros; omega)
        | (simp_all [refEq]; done)
  case true =>
    rw [if_pos rfl] at h
    obtain rfl := Option.some.inj h
    clear h
    go_enter Tryd.func74, Tryd.ntmps74
    go_wp2_with (first | (go_at_call 63; (with_reducible refine (trammelref1_kids.calls k _ _ _ HK.out).mono ?_); rintro e w' ⟨rfl, ⟨nd, rfl⟩⟩) | (go_at_call 95; refine (trammelref1_bound.calls k 4 a0_1 a0_2 a0_3 a0_4 a0_5 a0_6 a0_7 a0_8 a0_9 (w.heap.size + 1) 4 a0_1 a0_2 0 0 (⟨#[]⟩ : ByteArray) (⟨#[]⟩ : ByteArray) (⟨#[]⟩ : ByteArray) (⟨#[]⟩ : ByteArray) a0_9 true z0 z1 z2 z3 z4 z5 z6 z7 z8 z9 w _ ⟨(blk_put (cs' := #[.int .i64 4, .int .i64 a0_1, .int .i64 a0_2, .int .i64 0, .int .i64 0, .string (⟨#[]⟩ : ByteArray), .string (⟨#[]⟩ : ByteArray), .string (⟨#[]⟩ : ByteArray), .string (⟨#[]⟩ : ByteArray), .int .i64 a0_9]) (blk_put (cs' := #[.int .i64 4, .int .i64 a0_1, .int .i64 0, .int .i64 0, .int .i64 0, .string (⟨#[]⟩ : ByteArray), .string (⟨#[]⟩ : ByteArray), .string (⟨#[]⟩ : ByteArray), .string (⟨#[]⟩ : ByteArray), .int .i64 a0_9]) (show (((w.alloc (.cells #[.int .i64 4, .int .i64 a0_1, .int .i64 a0_2, .int .i64 a0_3, .int .i64 a0_4, .string a0_5, .string a0_6, .string a0_7, .string a0_8, .int .i64 a0_9] 45)).alloc (.cells #[.int .i64 4, .int .i64 0, .int .i64 0, .int .i64 0, .int .i64 0, .string (⟨#[]⟩ : ByteArray), .string (⟨#[]⟩ : ByteArray), .string (⟨#[]⟩ : ByteArray), .string (⟨#[]⟩ : ByteArray), .int .i64 a0_9] 45)).drewN nd).heap[w.heap.size + 1]? = some (.cells #[.int .i64 4, .int .i64 0, .int .i64 0, .int .i64 0, .int .i64 0, .string (⟨#[]⟩ : ByteArray), .string (⟨#[]⟩ : ByteArray), .string (⟨#[]⟩ : ByteArray), .string (⟨#[]⟩ : ByteArray), .int .i64 a0_9] 45 (0, 0)) from blk_drewN (by have h_ := blk_new (w.alloc (.cells #[.int .i64 4, .int .i64 a0_1, .int .i64 a0_2, .int .i64 a0_3, .int .i64 a0_4, .string a0_5, .string a0_6, .string a0_7, .string a0_8, .int .i64 a0_9] 45)) (.cells #[.int .i64 4, .int .i64 0, .int .i64 0, .int .i64 0, .int .i64 0, .string (⟨#[]⟩ : ByteArray), .string (⟨#[]⟩ : ByteArray), .string (⟨#[]⟩ : ByteArray), .string (⟨#[]⟩ : ByteArray), .int .i64 a0_9] 45); rwa [show (w.alloc (.cells #[.int .i64 4, .int .i64 a0_1, .int .i64 a0_2, .int .i64 a0_3, .int .i64 a0_4, .string a0_5, .string a0_6, .string a0_7, .string a0_8, .int .i64 a0_9] 45)).heap.size = w.heap.size + 1 from by simp] at h_) nd) 1 (.int .i64 a0_1) rfl) 2 (.int .i64 a0_2) rfl), Nat.le_succ _⟩ (by repeat (first | exact Below.refl _ _ | apply pw_below_drewN | refine below_set ?_ (Nat.le_succ _) | refine Below.alloc ?_ (by first | exact Nat.le_refl _ | simp) _)) HZ.out).mono ?_; rintro e w2 ⟨rfl, hI2, hB2, hK2⟩; have hx2 := blk_keep hK2 (blk_far (p := ⟨w.heap.size + 1, 2, none⟩) (blk_far (p := ⟨w.heap.size + 1, 1, none⟩) (show (((w.alloc (.cells #[.int .i64 4, .int .i64 a0_1, .int .i64 a0_2, .int .i64 a0_3, .int .i64 a0_4, .string a0_5, .string a0_6, .string a0_7, .string a0_8, .int .i64 a0_9] 45)).alloc (.cells #[.int .i64 4, .int .i64 0, .int .i64 0, .int .i64 0, .int .i64 0, .string (⟨#[]⟩ : ByteArray), .string (⟨#[]⟩ : ByteArray), .string (⟨#[]⟩ : ByteArray), .string (⟨#[]⟩ : ByteArray), .int .i64 a0_9] 45)).drewN nd).heap[w.heap.size]? = some (.cells #[.int .i64 4, .int .i64 a0_1, .int .i64 a0_2, .int .i64 a0_3, .int .i64 a0_4, .string a0_5, .string a0_6, .string a0_7, .string a0_8, .int .i64 a0_9] 45 (0, 0)) from blk_drewN (blk_alloc (blk_new w _) _) nd) (Nat.ne_of_lt (Nat.lt_succ_self _)) (.int .i64 a0_1)) (Nat.ne_of_lt (Nat.lt_succ_self _)) (.int .i64 a0_2)) (Nat.ne_of_lt (Nat.lt_succ_self _)); have hy2 := hI2.1; have hx2_0 : w2.cell? ⟨w.heap.size, 0, none⟩ = some (.int .i64 4) := (blk_cell hx2 0).trans rfl; have hy2_0 : w2.cell? ⟨w.heap.size + 1, 0, none⟩ = some (.int .i64 z0) := (blk_cell hy2 0).trans rfl; have hx2_1 : w2.cell? ⟨w.heap.size, 1, none⟩ = some (.int .i64 a0_1) := (blk_cell hx2 1).trans rfl; have hy2_1 : w2.cell? ⟨w.heap.size + 1, 1, none⟩ = some (.int .i64 z1) := (blk_cell hy2 1).trans rfl; have hx2_2 : w2.cell? ⟨w.heap.size, 2, none⟩ = some (.int .i64 a0_2) := (blk_cell hx2 2).trans rfl; have hy2_2 : w2.cell? ⟨w.heap.size + 1, 2, none⟩ = some (.int .i64 z2) := (blk_cell hy2 2).trans rfl; have hx2_3 : w2.cell? ⟨w.heap.size, 3, none⟩ = some (.int .i64 a0_3) := (blk_cell hx2 3).trans rfl; have hy2_3 : w2.cell? ⟨w.heap.size + 1, 3, none⟩ = some (.int .i64 z3) := (blk_cell hy2 3).trans rfl; have hx2_4 : w2.cell? ⟨w.heap.size, 4, none⟩ = some (.int .i64 a0_4) := (blk_cell hx2 4).trans rfl; have hy2_4 : w2.cell? ⟨w.heap.size + 1, 4, none⟩ = some (.int .i64 z4) := (blk_cell hy2 4).trans rfl; have hx2_5 : w2.cell? ⟨w.heap.size, 5, none⟩ = some (.string a0_5) := (blk_cell hx2 5).trans rfl; have hy2_5 : w2.cell? ⟨w.heap.size + 1, 5, none⟩ = some (.string z5) := (blk_cell hy2 5).trans rfl; have hx2_6 : w2.cell? ⟨w.heap.size, 6, none⟩ = some (.string a0_6) := (blk_cell hx2 6).trans rfl; have hy2_6 : w2.cell? ⟨w.heap.size + 1, 6, none⟩ = some (.string z6) := (blk_cell hy2 6).trans rfl; have hx2_7 : w2.cell? ⟨w.heap.size, 7, none⟩ = some (.string a0_7) := (blk_cell hx2 7).trans rfl; have hy2_7 : w2.cell? ⟨w.heap.size + 1, 7, none⟩ = some (.string z7) := (blk_cell hy2 7).trans rfl; have hx2_8 : w2.cell? ⟨w.heap.size, 8, none⟩ = some (.string a0_8) := (blk_cell hx2 8).trans rfl; have hy2_8 : w2.cell? ⟨w.heap.size + 1, 8, none⟩ = some (.string z8) := (blk_cell hy2 8).trans rfl; have hx2_9 : w2.cell? ⟨w.heap.size, 9, none⟩ = some (.int .i64 a0_9) := (blk_cell hx2 9).trans rfl; have hy2_9 : w2.cell? ⟨w.heap.size + 1, 9, none⟩ = some (.int .i64 z9) := (blk_cell hy2 9).trans rfl; have HB2 := Aside0.mk hB2; clear hx2 hy2 hI2 hB2 hK2))
    all_goals
      go_ret
      clear HK hu45
      refine ⟨?_, by repeat (first | exact HB2.out | exact Below.refl _ _ | apply pw_below_drewN | refine below_set ?_ (Nat.le_succ _) | refine Below.alloc ?_ (by first | exact Nat.le_refl _ | simp) _)⟩
      first
        | rfl
        | (simp [refEq, *]; done)
        | (simp [refEq, *]; omega)
        | (simp [refEq, *]; intros; omega)
        | (simp_all [refEq]; done)
set_option maxRecDepth 100000 in
set_option maxHeartbeats 8000000 in
theorem fields_5_false (k : Nat) (a0_0 a0_1 a0_2 a0_3 a0_4 : Int) (a0_5 a0_6 a0_7 a0_8 : ByteArray) (a0_9 : Int) (r : Bool) (w : World) (hk : a0_0 = 5) (h : trammelref1_fields.f k a0_0 a0_1 a0_2 a0_3 a0_4 a0_5 a0_6 a0_7 a0_8 a0_9 false = some r) :
    Calls Tryd.prog 74 #[.agg #[.int .i64 a0_0, .int .i64 a0_1, .int .i64 a0_2, .int .i64 a0_3, .int .i64 a0_4, .string a0_5, .string a0_6, .string a0_7, .string a0_8, .int .i64 a0_9], .bool false] w fun e w' => e = .returned (.bool r) ∧ Below w.heap.size w w' := by
  have hu45 := Tryd.underlying45
  subst hk
  have hy : refY ⟨5, a0_1, a0_2, a0_3, a0_4, a0_5, a0_6, a0_7, a0_8, a0_9⟩ false = (⟨5, a0_1, a0_2, 0, 0, (⟨#[]⟩ : ByteArray), (⟨#[]⟩ : ByteArray), (⟨#[]⟩ : ByteArray), (⟨#[]⟩ : ByteArray), a0_9⟩ : S45) := by rfl
  unfold trammelref1_fields.f at h
  dsimp only at h
  rw [hy] at h
  replace h := Option.bind_eq_some_iff.mp h
  obtain ⟨c, hc, h⟩ := h
  have hc3 := refKids_is hc
  replace hc3 : c = 2 := hc3.trans (by decide)
  subst hc3
  have HK := Aside0.mk hc
  clear hc hy
  rw [if_neg (by decide), Option.bind_some, if_pos rfl] at h
  dsimp only at h
  obtain rfl := Option.some.inj h
  clear h
  go_enter Tryd.func74, Tryd.ntmps74
  go_wp2_with (go_at_call 63; (with_reducible refine (trammelref1_kids.calls k _ _ _ HK.out).mono ?_); rintro e w' ⟨rfl, ⟨nd, rfl⟩⟩)
  all_goals
    go_ret
    clear HK hu45
    refine ⟨?_, by repeat (first | exact Below.refl _ _ | apply pw_below_drewN | refine below_set ?_ (Nat.le_succ _) | refine Below.alloc ?_ (by first | exact Nat.le_refl _ | simp) _)⟩
    first
      | rfl
      | (simp [refEq, *]; done)
      | (simp [refEq, *]; omega)
      | (simp [refEq, *]; intros; omega)
      | (simp_all [refEq]; done)
set_option maxRecDepth 100000 in
set_option maxHeartbeats 8000000 in
theorem fields_5_true (k : Nat) (a0_0 a0_1 a0_2 a0_3 a0_4 : Int) (a0_5 a0_6 a0_7 a0_8 : ByteArray) (a0_9 : Int) (r : Bool) (w : World) (hk : a0_0 = 5) (h : trammelref1_fields.f k a0_0 a0_1 a0_2 a0_3 a0_4 a0_5 a0_6 a0_7 a0_8 a0_9 true = some r) :
    Calls Tryd.prog 74 #[.agg #[.int .i64 a0_0, .int .i64 a0_1, .int .i64 a0_2, .int .i64 a0_3, .int .i64 a0_4, .string a0_5, .string a0_6, .string a0_7, .string a0_8, .int .i64 a0_9], .bool true] w fun e w' => e = .returned (.bool r) ∧ Below w.heap.size w w' := by
  have hu45 := Tryd.underlying45
  subst hk
  have hy : refY ⟨5, a0_1, a0_2, a0_3, a0_4, a0_5, a0_6, a0_7, a0_8, a0_9⟩ true = (⟨5, a0_1, a0_2, 0, 0, (⟨#[]⟩ : ByteArray), (⟨#[]⟩ : ByteArray), (⟨#[]⟩ : ByteArray), (⟨#[]⟩ : ByteArray), a0_9⟩ : S45) := by rfl
  unfold trammelref1_fields.f at h
  dsimp only at h
  rw [hy] at h
  replace h := Option.bind_eq_some_iff.mp h
  obtain ⟨c, hc, h⟩ := h
  have hc3 := refKids_is hc
  replace hc3 : c = 2 := hc3.trans (by decide)
  subst hc3
  have HK := Aside0.mk hc
  clear hc hy
  replace h := Option.bind_eq_some_iff.mp h
  obtain ⟨⟨ok, z0, z1, z2, z3, z4, z5, z6, z7, z8, z9⟩, hz, h⟩ := h
  rw [if_pos rfl] at hz
  have HZ := Aside0.mk (show trammelref1_bound.f k 5 a0_1 a0_2 a0_3 a0_4 a0_5 a0_6 a0_7 a0_8 a0_9 5 a0_1 a0_2 0 0 (⟨#[]⟩ : ByteArray) (⟨#[]⟩ : ByteArray) (⟨#[]⟩ : ByteArray) (⟨#[]⟩ : ByteArray) a0_9 = some (ok, z0, z1, z2, z3, z4, z5, z6, z7, z8, z9) from hz)
  clear hz
  dsimp only at h
  cases ok
  case false =>
    rw [if_neg (by decide)] at h
    obtain rfl := Option.some.inj h
    clear h
    go_enter Tryd.func74, Tryd.ntmps74
    go_wp2_with (first | (go_at_call 63; (with_reducible refine (trammelref1_kids.calls k _ _ _ HK.out).mono ?_); rintro e w' ⟨rfl, ⟨nd, rfl⟩⟩) | (go_at_call 95; refine (trammelref1_bound.calls k 5 a0_1 a0_2 a0_3 a0_4 a0_5 a0_6 a0_7 a0_8 a0_9 (w.heap.size + 1) 5 a0_1 a0_2 0 0 (⟨#[]⟩ : ByteArray) (⟨#[]⟩ : ByteArray) (⟨#[]⟩ : ByteArray) (⟨#[]⟩ : ByteArray) a0_9 false z0 z1 z2 z3 z4 z5 z6 z7 z8 z9 w _ ⟨(blk_put (cs' := #[.int .i64 5, .int .i64 a0_1, .int .i64 a0_2, .int .i64 0, .int .i64 0, .string (⟨#[]⟩ : ByteArray), .string (⟨#[]⟩ : ByteArray), .string (⟨#[]⟩ : ByteArray), .string (⟨#[]⟩ : ByteArray), .int .i64 a0_9]) (blk_put (cs' := #[.int .i64 5, .int .i64 a0_1, .int .i64 0, .int .i64 0, .int .i64 0, .string (⟨#[]⟩ : ByteArray), .string (⟨#[]⟩ : ByteArray), .string (⟨#[]⟩ : ByteArray), .string (⟨#[]⟩ : ByteArray), .int .i64 a0_9]) (show (((w.alloc (.cells #[.int .i64 5, .int .i64 a0_1, .int .i64 a0_2, .int .i64 a0_3, .int .i64 a0_4, .string a0_5, .string a0_6, .string a0_7, .string a0_8, .int .i64 a0_9] 45)).alloc (.cells #[.int .i64 5, .int .i64 0, .int .i64 0, .int .i64 0, .int .i64 0, .string (⟨#[]⟩ : ByteArray), .string (⟨#[]⟩ : ByteArray), .string (⟨#[]⟩ : ByteArray), .string (⟨#[]⟩ : ByteArray), .int .i64 a0_9] 45)).drewN nd).heap[w.heap.size + 1]? = some (.cells #[.int .i64 5, .int .i64 0, .int .i64 0, .int .i64 0, .int .i64 0, .string (⟨#[]⟩ : ByteArray), .string (⟨#[]⟩ : ByteArray), .string (⟨#[]⟩ : ByteArray), .string (⟨#[]⟩ : ByteArray), .int .i64 a0_9] 45 (0, 0)) from blk_drewN (by have h_ := blk_new (w.alloc (.cells #[.int .i64 5, .int .i64 a0_1, .int .i64 a0_2, .int .i64 a0_3, .int .i64 a0_4, .string a0_5, .string a0_6, .string a0_7, .string a0_8, .int .i64 a0_9] 45)) (.cells #[.int .i64 5, .int .i64 0, .int .i64 0, .int .i64 0, .int .i64 0, .string (⟨#[]⟩ : ByteArray), .string (⟨#[]⟩ : ByteArray), .string (⟨#[]⟩ : ByteArray), .string (⟨#[]⟩ : ByteArray), .int .i64 a0_9] 45); rwa [show (w.alloc (.cells #[.int .i64 5, .int .i64 a0_1, .int .i64 a0_2, .int .i64 a0_3, .int .i64 a0_4, .string a0_5, .string a0_6, .string a0_7, .string a0_8, .int .i64 a0_9] 45)).heap.size = w.heap.size + 1 from by simp] at h_) nd) 1 (.int .i64 a0_1) rfl) 2 (.int .i64 a0_2) rfl), Nat.le_succ _⟩ (by repeat (first | exact Below.refl _ _ | apply pw_below_drewN | refine below_set ?_ (Nat.le_succ _) | refine Below.alloc ?_ (by first | exact Nat.le_refl _ | simp) _)) HZ.out).mono ?_; rintro e w2 ⟨rfl, hI2, hB2, hK2⟩; have hx2 := blk_keep hK2 (blk_far (p := ⟨w.heap.size + 1, 2, none⟩) (blk_far (p := ⟨w.heap.size + 1, 1, none⟩) (show (((w.alloc (.cells #[.int .i64 5, .int .i64 a0_1, .int .i64 a0_2, .int .i64 a0_3, .int .i64 a0_4, .string a0_5, .string a0_6, .string a0_7, .string a0_8, .int .i64 a0_9] 45)).alloc (.cells #[.int .i64 5, .int .i64 0, .int .i64 0, .int .i64 0, .int .i64 0, .string (⟨#[]⟩ : ByteArray), .string (⟨#[]⟩ : ByteArray), .string (⟨#[]⟩ : ByteArray), .string (⟨#[]⟩ : ByteArray), .int .i64 a0_9] 45)).drewN nd).heap[w.heap.size]? = some (.cells #[.int .i64 5, .int .i64 a0_1, .int .i64 a0_2, .int .i64 a0_3, .int .i64 a0_4, .string a0_5, .string a0_6, .string a0_7, .string a0_8, .int .i64 a0_9] 45 (0, 0)) from blk_drewN (blk_alloc (blk_new w _) _) nd) (Nat.ne_of_lt (Nat.lt_succ_self _)) (.int .i64 a0_1)) (Nat.ne_of_lt (Nat.lt_succ_self _)) (.int .i64 a0_2)) (Nat.ne_of_lt (Nat.lt_succ_self _)); have hy2 := hI2.1; have hx2_0 : w2.cell? ⟨w.heap.size, 0, none⟩ = some (.int .i64 5) := (blk_cell hx2 0).trans rfl; have hy2_0 : w2.cell? ⟨w.heap.size + 1, 0, none⟩ = some (.int .i64 z0) := (blk_cell hy2 0).trans rfl; have hx2_1 : w2.cell? ⟨w.heap.size, 1, none⟩ = some (.int .i64 a0_1) := (blk_cell hx2 1).trans rfl; have hy2_1 : w2.cell? ⟨w.heap.size + 1, 1, none⟩ = some (.int .i64 z1) := (blk_cell hy2 1).trans rfl; have hx2_2 : w2.cell? ⟨w.heap.size, 2, none⟩ = some (.int .i64 a0_2) := (blk_cell hx2 2).trans rfl; have hy2_2 : w2.cell? ⟨w.heap.size + 1, 2, none⟩ = some (.int .i64 z2) := (blk_cell hy2 2).trans rfl; have hx2_3 : w2.cell? ⟨w.heap.size, 3, none⟩ = some (.int .i64 a0_3) := (blk_cell hx2 3).trans rfl; have hy2_3 : w2.cell? ⟨w.heap.size + 1, 3, none⟩ = some (.int .i64 z3) := (blk_cell hy2 3).trans rfl; have hx2_4 : w2.cell? ⟨w.heap.size, 4, none⟩ = some (.int .i64 a0_4) := (blk_cell hx2 4).trans rfl; have hy2_4 : w2.cell? ⟨w.heap.size + 1, 4, none⟩ = some (.int .i64 z4) := (blk_cell hy2 4).trans rfl; have hx2_5 : w2.cell? ⟨w.heap.size, 5, none⟩ = some (.string a0_5) := (blk_cell hx2 5).trans rfl; have hy2_5 : w2.cell? ⟨w.heap.size + 1, 5, none⟩ = some (.string z5) := (blk_cell hy2 5).trans rfl; have hx2_6 : w2.cell? ⟨w.heap.size, 6, none⟩ = some (.string a0_6) := (blk_cell hx2 6).trans rfl; have hy2_6 : w2.cell? ⟨w.heap.size + 1, 6, none⟩ = some (.string z6) := (blk_cell hy2 6).trans rfl; have hx2_7 : w2.cell? ⟨w.heap.size, 7, none⟩ = some (.string a0_7) := (blk_cell hx2 7).trans rfl; have hy2_7 : w2.cell? ⟨w.heap.size + 1, 7, none⟩ = some (.string z7) := (blk_cell hy2 7).trans rfl; have hx2_8 : w2.cell? ⟨w.heap.size, 8, none⟩ = some (.string a0_8) := (blk_cell hx2 8).trans rfl; have hy2_8 : w2.cell? ⟨w.heap.size + 1, 8, none⟩ = some (.string z8) := (blk_cell hy2 8).trans rfl; have hx2_9 : w2.cell? ⟨w.heap.size, 9, none⟩ = some (.int .i64 a0_9) := (blk_cell hx2 9).trans rfl; have hy2_9 : w2.cell? ⟨w.heap.size + 1, 9, none⟩ = some (.int .i64 z9) := (blk_cell hy2 9).trans rfl; have HB2 := Aside0.mk hB2; clear hx2 hy2 hI2 hB2 hK2))
    all_goals
      go_ret
      clear HK hu45
      refine ⟨?_, by repeat (first | exact HB2.out | exact Below.refl _ _ | apply pw_below_drewN | refine below_set ?_ (Nat.le_succ _) | refine Below.alloc ?_ (by first | exact Nat.le_refl _ | simp) _)⟩
      first
        | rfl
        | (simp [refEq, *]; done)
        | (simp [refEq, *]; omega)
        | (simp [refEq, *]; intros; omega)
        | (simp_all [refEq]; done)
  case true =>
    rw [if_pos rfl] at h
    obtain rfl := Option.some.inj h
    clear h
    go_enter Tryd.func74, Tryd.ntmps74
    go_wp2_with (first | (go_at_call 63; (with_reducible refine (trammelref1_kids.calls k _ _ _ HK.out).mono ?_); rintro e w' ⟨rfl, ⟨nd, rfl⟩⟩) | (go_at_call 95; refine (trammelref1_bound.calls k 5 a0_1 a0_2 a0_3 a0_4 a0_5 a0_6 a0_7 a0_8 a0_9 (w.heap.size + 1) 5 a0_1 a0_2 0 0 (⟨#[]⟩ : ByteArray) (⟨#[]⟩ : ByteArray) (⟨#[]⟩ : ByteArray) (⟨#[]⟩ : ByteArray) a0_9 true z0 z1 z2 z3 z4 z5 z6 z7 z8 z9 w _ ⟨(blk_put (cs' := #[.int .i64 5, .int .i64 a0_1, .int .i64 a0_2, .int .i64 0, .int .i64 0, .string (⟨#[]⟩ : ByteArray), .string (⟨#[]⟩ : ByteArray), .string (⟨#[]⟩ : ByteArray), .string (⟨#[]⟩ : ByteArray), .int .i64 a0_9]) (blk_put (cs' := #[.int .i64 5, .int .i64 a0_1, .int .i64 0, .int .i64 0, .int .i64 0, .string (⟨#[]⟩ : ByteArray), .string (⟨#[]⟩ : ByteArray), .string (⟨#[]⟩ : ByteArray), .string (⟨#[]⟩ : ByteArray), .int .i64 a0_9]) (show (((w.alloc (.cells #[.int .i64 5, .int .i64 a0_1, .int .i64 a0_2, .int .i64 a0_3, .int .i64 a0_4, .string a0_5, .string a0_6, .string a0_7, .string a0_8, .int .i64 a0_9] 45)).alloc (.cells #[.int .i64 5, .int .i64 0, .int .i64 0, .int .i64 0, .int .i64 0, .string (⟨#[]⟩ : ByteArray), .string (⟨#[]⟩ : ByteArray), .string (⟨#[]⟩ : ByteArray), .string (⟨#[]⟩ : ByteArray), .int .i64 a0_9] 45)).drewN nd).heap[w.heap.size + 1]? = some (.cells #[.int .i64 5, .int .i64 0, .int .i64 0, .int .i64 0, .int .i64 0, .string (⟨#[]⟩ : ByteArray), .string (⟨#[]⟩ : ByteArray), .string (⟨#[]⟩ : ByteArray), .string (⟨#[]⟩ : ByteArray), .int .i64 a0_9] 45 (0, 0)) from blk_drewN (by have h_ := blk_new (w.alloc (.cells #[.int .i64 5, .int .i64 a0_1, .int .i64 a0_2, .int .i64 a0_3, .int .i64 a0_4, .string a0_5, .string a0_6, .string a0_7, .string a0_8, .int .i64 a0_9] 45)) (.cells #[.int .i64 5, .int .i64 0, .int .i64 0, .int .i64 0, .int .i64 0, .string (⟨#[]⟩ : ByteArray), .string (⟨#[]⟩ : ByteArray), .string (⟨#[]⟩ : ByteArray), .string (⟨#[]⟩ : ByteArray), .int .i64 a0_9] 45); rwa [show (w.alloc (.cells #[.int .i64 5, .int .i64 a0_1, .int .i64 a0_2, .int .i64 a0_3, .int .i64 a0_4, .string a0_5, .string a0_6, .string a0_7, .string a0_8, .int .i64 a0_9] 45)).heap.size = w.heap.size + 1 from by simp] at h_) nd) 1 (.int .i64 a0_1) rfl) 2 (.int .i64 a0_2) rfl), Nat.le_succ _⟩ (by repeat (first | exact Below.refl _ _ | apply pw_below_drewN | refine below_set ?_ (Nat.le_succ _) | refine Below.alloc ?_ (by first | exact Nat.le_refl _ | simp) _)) HZ.out).mono ?_; rintro e w2 ⟨rfl, hI2, hB2, hK2⟩; have hx2 := blk_keep hK2 (blk_far (p := ⟨w.heap.size + 1, 2, none⟩) (blk_far (p := ⟨w.heap.size + 1, 1, none⟩) (show (((w.alloc (.cells #[.int .i64 5, .int .i64 a0_1, .int .i64 a0_2, .int .i64 a0_3, .int .i64 a0_4, .string a0_5, .string a0_6, .string a0_7, .string a0_8, .int .i64 a0_9] 45)).alloc (.cells #[.int .i64 5, .int .i64 0, .int .i64 0, .int .i64 0, .int .i64 0, .string (⟨#[]⟩ : ByteArray), .string (⟨#[]⟩ : ByteArray), .string (⟨#[]⟩ : ByteArray), .string (⟨#[]⟩ : ByteArray), .int .i64 a0_9] 45)).drewN nd).heap[w.heap.size]? = some (.cells #[.int .i64 5, .int .i64 a0_1, .int .i64 a0_2, .int .i64 a0_3, .int .i64 a0_4, .string a0_5, .string a0_6, .string a0_7, .string a0_8, .int .i64 a0_9] 45 (0, 0)) from blk_drewN (blk_alloc (blk_new w _) _) nd) (Nat.ne_of_lt (Nat.lt_succ_self _)) (.int .i64 a0_1)) (Nat.ne_of_lt (Nat.lt_succ_self _)) (.int .i64 a0_2)) (Nat.ne_of_lt (Nat.lt_succ_self _)); have hy2 := hI2.1; have hx2_0 : w2.cell? ⟨w.heap.size, 0, none⟩ = some (.int .i64 5) := (blk_cell hx2 0).trans rfl; have hy2_0 : w2.cell? ⟨w.heap.size + 1, 0, none⟩ = some (.int .i64 z0) := (blk_cell hy2 0).trans rfl; have hx2_1 : w2.cell? ⟨w.heap.size, 1, none⟩ = some (.int .i64 a0_1) := (blk_cell hx2 1).trans rfl; have hy2_1 : w2.cell? ⟨w.heap.size + 1, 1, none⟩ = some (.int .i64 z1) := (blk_cell hy2 1).trans rfl; have hx2_2 : w2.cell? ⟨w.heap.size, 2, none⟩ = some (.int .i64 a0_2) := (blk_cell hx2 2).trans rfl; have hy2_2 : w2.cell? ⟨w.heap.size + 1, 2, none⟩ = some (.int .i64 z2) := (blk_cell hy2 2).trans rfl; have hx2_3 : w2.cell? ⟨w.heap.size, 3, none⟩ = some (.int .i64 a0_3) := (blk_cell hx2 3).trans rfl; have hy2_3 : w2.cell? ⟨w.heap.size + 1, 3, none⟩ = some (.int .i64 z3) := (blk_cell hy2 3).trans rfl; have hx2_4 : w2.cell? ⟨w.heap.size, 4, none⟩ = some (.int .i64 a0_4) := (blk_cell hx2 4).trans rfl; have hy2_4 : w2.cell? ⟨w.heap.size + 1, 4, none⟩ = some (.int .i64 z4) := (blk_cell hy2 4).trans rfl; have hx2_5 : w2.cell? ⟨w.heap.size, 5, none⟩ = some (.string a0_5) := (blk_cell hx2 5).trans rfl; have hy2_5 : w2.cell? ⟨w.heap.size + 1, 5, none⟩ = some (.string z5) := (blk_cell hy2 5).trans rfl; have hx2_6 : w2.cell? ⟨w.heap.size, 6, none⟩ = some (.string a0_6) := (blk_cell hx2 6).trans rfl; have hy2_6 : w2.cell? ⟨w.heap.size + 1, 6, none⟩ = some (.string z6) := (blk_cell hy2 6).trans rfl; have hx2_7 : w2.cell? ⟨w.heap.size, 7, none⟩ = some (.string a0_7) := (blk_cell hx2 7).trans rfl; have hy2_7 : w2.cell? ⟨w.heap.size + 1, 7, none⟩ = some (.string z7) := (blk_cell hy2 7).trans rfl; have hx2_8 : w2.cell? ⟨w.heap.size, 8, none⟩ = some (.string a0_8) := (blk_cell hx2 8).trans rfl; have hy2_8 : w2.cell? ⟨w.heap.size + 1, 8, none⟩ = some (.string z8) := (blk_cell hy2 8).trans rfl; have hx2_9 : w2.cell? ⟨w.heap.size, 9, none⟩ = some (.int .i64 a0_9) := (blk_cell hx2 9).trans rfl; have hy2_9 : w2.cell? ⟨w.heap.size + 1, 9, none⟩ = some (.int .i64 z9) := (blk_cell hy2 9).trans rfl; have HB2 := Aside0.mk hB2; clear hx2 hy2 hI2 hB2 hK2))
    all_goals
      go_ret
      clear HK hu45
      refine ⟨?_, by repeat (first | exact HB2.out | exact Below.refl _ _ | apply pw_below_drewN | refine below_set ?_ (Nat.le_succ _) | refine Below.alloc ?_ (by first | exact Nat.le_refl _ | simp) _)⟩
      first
        | rfl
        | (simp [refEq, *]; done)
        | (simp [refEq, *]; omega)
        | (simp [refEq, *]; intros; omega)
        | (simp_all [refEq]; done)
set_option maxRecDepth 100000 in
set_option maxHeartbeats 8000000 in
theorem fields_6_false (k : Nat) (a0_0 a0_1 a0_2 a0_3 a0_4 : Int) (a0_5 a0_6 a0_7 a0_8 : ByteArray) (a0_9 : Int) (r : Bool) (w : World) (hk : a0_0 = 6) (h : trammelref1_fields.f k a0_0 a0_1 a0_2 a0_3 a0_4 a0_5 a0_6 a0_7 a0_8 a0_9 false = some r) :
    Calls Tryd.prog 74 #[.agg #[.int .i64 a0_0, .int .i64 a0_1, .int .i64 a0_2, .int .i64 a0_3, .int .i64 a0_4, .string a0_5, .string a0_6, .string a0_7, .string a0_8, .int .i64 a0_9], .bool false] w fun e w' => e = .returned (.bool r) ∧ Below w.heap.size w w' := by
  have hu45 := Tryd.underlying45
  subst hk
  have hy : refY ⟨6, a0_1, a0_2, a0_3, a0_4, a0_5, a0_6, a0_7, a0_8, a0_9⟩ false = (⟨6, a0_1, a0_2, 0, 0, (⟨#[]⟩ : ByteArray), (⟨#[]⟩ : ByteArray), (⟨#[]⟩ : ByteArray), (⟨#[]⟩ : ByteArray), a0_9⟩ : S45) := by rfl
  unfold trammelref1_fields.f at h
  dsimp only at h
  rw [hy] at h
  replace h := Option.bind_eq_some_iff.mp h
  obtain ⟨c, hc, h⟩ := h
  have hc3 := refKids_is hc
  replace hc3 : c = 2 := hc3.trans (by decide)
  subst hc3
  have HK := Aside0.mk hc
  clear hc hy
  rw [if_neg (by decide), Option.bind_some, if_pos rfl] at h
  dsimp only at h
  obtain rfl := Option.some.inj h
  clear h
  go_enter Tryd.func74, Tryd.ntmps74
  go_wp2_with (go_at_call 63; (with_reducible refine (trammelref1_kids.calls k _ _ _ HK.out).mono ?_); rintro e w' ⟨rfl, ⟨nd, rfl⟩⟩)
  all_goals
    go_ret
    clear HK hu45
    refine ⟨?_, by repeat (first | exact Below.refl _ _ | apply pw_below_drewN | refine below_set ?_ (Nat.le_succ _) | refine Below.alloc ?_ (by first | exact Nat.le_refl _ | simp) _)⟩
    first
      | rfl
      | (simp [refEq, *]; done)
      | (simp [refEq, *]; omega)
      | (simp [refEq, *]; intros; omega)
      | (simp_all [refEq]; done)
end Go.Proofs.YtnogfhhfklkbiaaDoor.H
