/- Several texts in one: contracts of functions of the program, and what they lean on. In part written by a program of this session over the kit's print, in part by hand. -/
import Derived.Test.YtnogfhhfklkbiaaDoorL0
import Derived.Test.YtnogfhhfklkbiaaDoorL5
import Derived.Test.YtnogfhhfklkbiaaDoorYLexes1
import Derived.Test.YtnogfhhfklkbiaaDoorYLexes0
namespace Go.Proofs.YtnogfhhfklkbiaaDoor.H
open Go.RowKit Go.Proofs.YtnogfhhfklkbiaaDoorW.PrintWords Go.Proofs.YtnogfhhfklkbiaaDoorW.PrintLast Go.Proofs.YtnogfhhfklkbiaaDoorW.PrintMore
attribute [local go_sem] max2_int min2_int max_two min_two max_three min_three max_four min_four   -- for this text's walks alone
set_option linter.unusedVariables false
set_option linter.unusedSimpArgs false

/-! ### trammelref1_Tokens: function 28 -/
mutual
def trammelref1_Tokens.l0 : Nat → ByteArray → List (S60) → Int → Option ((List (S60)) × Int × Int)
  | 0, _, _, _ => none
  | k + 1, x0, x7, x8 => if x8 < (x0.size : Int) then (if 0 ≤ x8 then (if (bt x0 x8) = 32 then (trammelref1_Tokens.j1 k x0 x7 x8 (bt x0 x8) true) else (if (bt x0 x8) = 9 then (trammelref1_Tokens.j1 k x0 x7 x8 (bt x0 x8) true) else (trammelref1_Tokens.j1 k x0 x7 x8 (bt x0 x8) ((bt x0 x8) == 10)))) else (none)) else (some (x7, 0, 0))
def trammelref1_Tokens.j1 : Nat → ByteArray → List (S60) → Int → Int → Bool → Option ((List (S60)) × Int × Int)
  | 0, _, _, _, _, _ => none
  | k + 1, x0, x7, x8, x9, x47 => if x47 = true then (trammelref1_Tokens.l0 k x0 x7 (wrap64 (x8 + 1))) else (if x9 = 35 then (trammelref1_Tokens.l1 k x0 x7 x8) else ((trammelref1_token.f k x0 x8).bind fun bt171 => (if bt171.2.2.2.2.2 = 0 then (if x7.length < 3518437208883 then (trammelref1_Tokens.l0 k x0 (x7 ++ [(⟨bt171.1, bt171.2.1, bt171.2.2.1, bt171.2.2.2.1⟩ : S60)]) bt171.2.2.2.2.1) else (none)) else (some (([] : List (S60)), x8, bt171.2.2.2.2.2)))))
def trammelref1_Tokens.l1 : Nat → ByteArray → List (S60) → Int → Option ((List (S60)) × Int × Int)
  | 0, _, _, _ => none
  | k + 1, x0, x7, x8 => if x8 < (x0.size : Int) then (if 0 ≤ x8 then (if (bt x0 x8) = 10 then (trammelref1_Tokens.l0 k x0 x7 x8) else (trammelref1_Tokens.l1 k x0 x7 (wrap64 (x8 + 1)))) else (none)) else (trammelref1_Tokens.l0 k x0 x7 x8)
end
def trammelref1_Tokens.f (k : Nat) (a0 : ByteArray) : Option ((List (S60)) × Int × Int) := if (a0.size : Int) > 4096 then (some (([] : List (S60)), 0, 200)) else ((trammelref1_Valid.f k a0).bind fun bt169 => (if bt169.2 = true then (trammelref1_Tokens.l0 k a0 ([] : List (S60)) 0) else (some (([] : List (S60)), bt169.1, 200))))
theorem trammelref1_Tokens.mono_l : ∀ k, (∀ y0 y1 y2, LeO (trammelref1_Tokens.l0 k y0 y1 y2) (trammelref1_Tokens.l0 (k + 1) y0 y1 y2)) ∧ (∀ y0 y1 y2 y3 y4, LeO (trammelref1_Tokens.j1 k y0 y1 y2 y3 y4) (trammelref1_Tokens.j1 (k + 1) y0 y1 y2 y3 y4)) ∧ (∀ y0 y1 y2, LeO (trammelref1_Tokens.l1 k y0 y1 y2) (trammelref1_Tokens.l1 (k + 1) y0 y1 y2))
  | 0 => ⟨fun _ _ _ r h => by simp [trammelref1_Tokens.l0] at h, fun _ _ _ _ _ r h => by simp [trammelref1_Tokens.j1] at h, fun _ _ _ r h => by simp [trammelref1_Tokens.l1] at h⟩
  | k + 1 => by
    obtain ⟨ih0, ih1, ih2⟩ := trammelref1_Tokens.mono_l k
    refine ⟨?_, ?_, ?_⟩
    · intro y0 y1 y2
      unfold trammelref1_Tokens.l0
      repeat' first
      | (with_reducible exact ih0 _ _ _)
      | (with_reducible exact ih1 _ _ _ _ _)
      | (with_reducible exact ih2 _ _ _)
      | (with_reducible exact trammelref1_Valid.mono _ _)
      | (with_reducible exact trammelref1_token.mono _ _ _)
      | (with_reducible exact LeO.refl _)
      | (with_reducible exact LeO.none _)
      | (with_reducible refine LeO.ite ?_ ?_)
      | (with_reducible refine LeO.bind ?_ (fun _ => ?_))
      | exact ih0 _ _ _
      | exact ih1 _ _ _ _ _
      | exact ih2 _ _ _
      | exact trammelref1_Valid.mono _ _
      | exact trammelref1_token.mono _ _ _
      | exact LeO.none _
      | refine LeO.ite ?_ ?_
      | refine LeO.bind ?_ (fun _ => ?_)
    · intro y0 y1 y2 y3 y4
      unfold trammelref1_Tokens.j1
      repeat' first
      | (with_reducible exact ih0 _ _ _)
      | (with_reducible exact ih1 _ _ _ _ _)
      | (with_reducible exact ih2 _ _ _)
      | (with_reducible exact trammelref1_Valid.mono _ _)
      | (with_reducible exact trammelref1_token.mono _ _ _)
      | (with_reducible exact LeO.refl _)
      | (with_reducible exact LeO.none _)
      | (with_reducible refine LeO.ite ?_ ?_)
      | (with_reducible refine LeO.bind ?_ (fun _ => ?_))
      | exact ih0 _ _ _
      | exact ih1 _ _ _ _ _
      | exact ih2 _ _ _
      | exact trammelref1_Valid.mono _ _
      | exact trammelref1_token.mono _ _ _
      | exact LeO.none _
      | refine LeO.ite ?_ ?_
      | refine LeO.bind ?_ (fun _ => ?_)
    · intro y0 y1 y2
      unfold trammelref1_Tokens.l1
      repeat' first
      | (with_reducible exact ih0 _ _ _)
      | (with_reducible exact ih1 _ _ _ _ _)
      | (with_reducible exact ih2 _ _ _)
      | (with_reducible exact trammelref1_Valid.mono _ _)
      | (with_reducible exact trammelref1_token.mono _ _ _)
      | (with_reducible exact LeO.refl _)
      | (with_reducible exact LeO.none _)
      | (with_reducible refine LeO.ite ?_ ?_)
      | (with_reducible refine LeO.bind ?_ (fun _ => ?_))
      | exact ih0 _ _ _
      | exact ih1 _ _ _ _ _
      | exact ih2 _ _ _
      | exact trammelref1_Valid.mono _ _
      | exact trammelref1_token.mono _ _ _
      | exact LeO.none _
      | refine LeO.ite ?_ ?_
      | refine LeO.bind ?_ (fun _ => ?_)
theorem trammelref1_Tokens.mono : ∀ a0 k, LeO (trammelref1_Tokens.f k a0) (trammelref1_Tokens.f (k + 1) a0) := by
  intro a0 k
  obtain ⟨ih0, ih1, ih2⟩ := trammelref1_Tokens.mono_l k
  unfold trammelref1_Tokens.f
  repeat' first
      | (with_reducible exact ih0 _ _ _)
      | (with_reducible exact ih1 _ _ _ _ _)
      | (with_reducible exact ih2 _ _ _)
      | (with_reducible exact trammelref1_Valid.mono _ _)
      | (with_reducible exact trammelref1_token.mono _ _ _)
      | (with_reducible exact LeO.refl _)
      | (with_reducible exact LeO.none _)
      | (with_reducible refine LeO.ite ?_ ?_)
      | (with_reducible refine LeO.bind ?_ (fun _ => ?_))
      | exact ih0 _ _ _
      | exact ih1 _ _ _ _ _
      | exact ih2 _ _ _
      | exact trammelref1_Valid.mono _ _
      | exact trammelref1_token.mono _ _ _
      | exact LeO.none _
      | refine LeO.ite ?_ ?_
      | refine LeO.bind ?_ (fun _ => ?_)
set_option maxHeartbeats 8000000 in
set_option maxRecDepth 100000 in
theorem trammelref1_Tokens.calls (k : Nat) (a0 : ByteArray) (r1 : List (S60)) (r2 : Int) (r3 : Int) (w : World) (h : trammelref1_Tokens.f k a0 = some (r1, r2, r3)) :
    Calls Tryd.prog 28 #[.string a0] w fun e w' => ∃ v0_ : Value, e = .returned (.tuple #[v0_, .int .i64 r2, .int .i64 r3]) ∧ Kd.R k60 60 w' w.heap.size (fun _ => True) v0_ r1 ∧ Below w.heap.size w w' := by
  have hu60 := Tryd.underlying60
  have HB := Aside0.mk (Below.refl w.heap.size w)
  have H : (if (a0.size : Int) > 4096 then (some (([] : List (S60)), 0, 200)) else ((trammelref1_Valid.f k a0).bind fun bt169 => (if bt169.2 = true then (trammelref1_Tokens.l0 k a0 ([] : List (S60)) 0) else (some (([] : List (S60)), bt169.1, 200))))) = some (r1, r2, r3) := h
  clear h
  by_cases c2 : (a0.size : Int) > 4096
  · rw [if_pos c2] at H
    have c2b0 : decide (4096 < (a0.size : Int)) = true := decide_eq_true c2
    have c2b1 : decide (4096 < a0.size) = true := decide_eq_true (by omega)
    clear c2
    simp only [Option.some.injEq, Prod.mk.injEq] at H
    obtain ⟨rfl, rfl, rfl⟩ := H
    go_enter Tryd.func28, Tryd.ntmps28
    go_wp2
    go_ret3
    exact ⟨_, by first | rfl | (simp [errW_none, errW_some] <;> rfl) | (simp [*, errW_none, errW_some] <;> rfl), by first | exact Kd.R_nil _ _ _ _ _ | exact Kd.N_nil _ _ _ _ _ | exact Kd.V_nil _ _ _ _ _ | exact Kd.Q_nil _ _ _ _ _ | exact Kd.S_nil _ _ _ _ _, by repeat (first | (with_reducible first | exact HB.out | apply below_alloc | apply pw_below_drewN | apply below_drew1) | exact HB.out)⟩
  · rw [if_neg c2] at H
    have c2b0 : decide (4096 < (a0.size : Int)) = false := decide_eq_false c2
    have c2b1 : decide (4096 < a0.size) = false := decide_eq_false (by omega)
    clear c2
    replace H := Option.bind_eq_some_iff.mp H
    obtain ⟨⟨t169, t170⟩, A30, H⟩ := H
    replace H : (if t170 = true then (trammelref1_Tokens.l0 k a0 ([] : List (S60)) 0) else (some (([] : List (S60)), t169, 200))) = some (r1, r2, r3) := H
    have A3 := Aside0.mk A30
    clear A30
    by_cases c4 : t170 = true
    · subst c4
      have H1 : (trammelref1_Tokens.l0 k a0 ([] : List (S60)) 0) = some (r1, r2, r3) := by rw [if_pos rfl] at H; exact H
      clear H
      have H := H1
      clear H1
      have H' := Aside0.mk H
      clear H
      go_enter Tryd.func28, Tryd.ntmps28
      go_wp2_with (first | ((with_reducible refine gate_callee (f := 57) rfl ?_); refine goesL_ (some 18) rfl rfl Tryd.func57 (by kernel_rfl) rfl #[.string a0] rfl (by (try simp only [List.map_toArray, List.map_cons, List.map_nil]); first | done | rfl | (simp only [List.length_drop, List.length_take]; rfl)) ?_; (with_reducible refine (trammelref1_Valid.calls k a0 t169 true _ A3.out).mono ?_); rintro e w' ⟨rfl, ⟨nd, rfl⟩⟩; refine ⟨_, rfl, ?_⟩))
      go_loopg [7, 8] k (fun kq v7 v8 w' => ∃ (x7_1 : List (S60)) (x8_1 : Int), v8 = .int .i64 x8_1 ∧ Aside0 (trammelref1_Tokens.l0 kq a0 x7_1 x8_1 = some (r1, r2, r3)) ∧ Aside0 (kq ≤ k) ∧ Aside0 (Kd.R k60 60 w' w.heap.size (fun _ => True) v7 x7_1) ∧ Aside0 (Below w.heap.size w w'))
      case atStart => exact ⟨(([] : List (S60))), (0), (by first | rfl | (simp; done) | (simp [*]; done)), H', ⟨Nat.le_refl _⟩, ⟨by first | exact Kd.R_nil _ _ _ _ _ | exact Kd.N_nil _ _ _ _ _ | exact Kd.V_nil _ _ _ _ _ | exact Kd.Q_nil _ _ _ _ _ | exact Kd.S_nil _ _ _ _ _⟩, ⟨by repeat (first | (with_reducible first | exact HB.out | apply below_alloc | apply pw_below_drewN | apply below_drew1) | exact HB.out)⟩⟩
      case round =>
        clear H'
        try clear c2
        try clear c2b0
        try clear c2b1
        try clear p2
        try clear c4
        obtain ⟨x7_1, x8_1, rfl, HA, HK1, HO_7, HB⟩ := hrel
        cases gk with
        | zero => exact absurd HA.out (by simp [trammelref1_Tokens.l0])
        | succ k1 =>
          have H := HA.out
          clear HA
          simp only [trammelref1_Tokens.l0] at H
          by_cases c5 : x8_1 < (a0.size : Int)
          · rw [if_pos c5] at H
            have c5b0 : decide (x8_1 < (a0.size : Int)) = true := decide_eq_true c5
            clear c5
            by_cases c6 : 0 ≤ x8_1
            · rw [if_pos c6] at H
              have c6b0 : decide (0 ≤ x8_1) = true := decide_eq_true c6
              clear c6
              have HC8 := Aside0.mk H
              clear H
              have p7 : 0 ≤ (x8_1 : Int) := of_decide_eq_true (by first | (with_reducible assumption) | assumption)
              have q7 : x8_1 < (a0.size : Int) := of_decide_eq_true (by first | (with_reducible assumption) | assumption)
              have hx7 := bt_at a0 x8_1
              replace p7 := eq_true p7
              replace q7 := eq_true q7
              go_upto_region 15 with (fail)
              go_cut [47] (fun v47 wc => ∃ (kq : Nat) (x47_7 : Bool), v47 = .bool x47_7 ∧ Aside0 (trammelref1_Tokens.j1 kq a0 x7_1 x8_1 (bt a0 x8_1) x47_7 = some (r1, r2, r3)) ∧ Aside0 (kq ≤ k1) ∧ Aside0 (Kd.R k60 60 wc w.heap.size (fun _ => True) u7 x7_1) ∧ Aside0 (Below w.heap.size w wc))
              case first =>
                have H := HC8.out
                clear HC8
                by_cases c9 : (bt a0 x8_1) = 32
                · rw [if_pos c9] at H
                  have c9b0 : ((bt a0 x8_1) == 32) = true := beq_iff_eq.mpr c9
                  have c9b1 : ((bt a0 x8_1) != 32) = false := bne_eq_false_iff_eq.mpr c9
                  clear c9
                  (first | rw [c9b0] | (simp only [i64_w, i32_w]; rw [c9b0]) | skip)
                  have H' := Aside0.mk H
                  clear H
                  go_wp2
                  go_meet
                  case rel => exact ⟨_, (true), (by first | rfl | (simp; done) | (simp [*]; done)), H', ⟨by have := HK1.out; first | omega | exact Nat.le_refl _⟩, ⟨by (with_reducible repeat (first | apply Kd.R_alloc | apply Kd.R_drewN | apply Kd.R_drew)); exact HO_7.out⟩, ⟨by repeat (first | (with_reducible first | exact HB.out | apply below_alloc | apply pw_below_drewN | apply below_drew1) | exact HB.out)⟩⟩
                · rw [if_neg c9] at H
                  have c9b0 : ((bt a0 x8_1) == 32) = false := beq_eq_false_iff_ne.mpr c9
                  have c9b1 : ((bt a0 x8_1) != 32) = true := bne_iff_ne.mpr c9
                  (first | rw [c9b0] | (simp only [i64_w, i32_w]; rw [c9b0]) | skip)
                  by_cases c10 : (bt a0 x8_1) = 9
                  · rw [if_pos c10] at H
                    have c10b0 : ((bt a0 x8_1) == 9) = true := beq_iff_eq.mpr c10
                    have c10b1 : ((bt a0 x8_1) != 9) = false := bne_eq_false_iff_eq.mpr c10
                    clear c10
                    have H' := Aside0.mk H
                    clear H
                    go_wp2
                    go_meet
                    case rel => exact ⟨_, (true), (by first | rfl | (simp; done) | (simp [*]; done)), H', ⟨by have := HK1.out; first | omega | exact Nat.le_refl _⟩, ⟨by (with_reducible repeat (first | apply Kd.R_alloc | apply Kd.R_drewN | apply Kd.R_drew)); exact HO_7.out⟩, ⟨by repeat (first | (with_reducible first | exact HB.out | apply below_alloc | apply pw_below_drewN | apply below_drew1) | exact HB.out)⟩⟩
                  · rw [if_neg c10] at H
                    have c10b0 : ((bt a0 x8_1) == 9) = false := beq_eq_false_iff_ne.mpr c10
                    have c10b1 : ((bt a0 x8_1) != 9) = true := bne_iff_ne.mpr c10
                    have H' := Aside0.mk H
                    clear H
                    go_wp2
                    go_meet
                    case rel => exact ⟨_, (((bt a0 x8_1) == 10)), (by first | rfl | (simp; done) | (simp [*]; done)), H', ⟨by have := HK1.out; first | omega | exact Nat.le_refl _⟩, ⟨by (with_reducible repeat (first | apply Kd.R_alloc | apply Kd.R_drewN | apply Kd.R_drew)); exact HO_7.out⟩, ⟨by repeat (first | (with_reducible first | exact HB.out | apply below_alloc | apply pw_below_drewN | apply below_drew1) | exact HB.out)⟩⟩
              case rest =>
                clear HC8
                try clear c1
                try clear c2
                try clear c2b0
                try clear c2b1
                try clear p2
                try clear c4
                try clear c5
                try clear c5b0
                try clear c6
                try clear c6b0
                try clear p7
                try clear q7
                try clear hx7
                try clear c9
                try clear c9b0
                try clear c9b1
                try clear c10
                try clear c10b0
                try clear c10b1
                try clear p2
                try clear p7
                try clear q7
                obtain ⟨kq, x47_7, rfl, HA, HJ7, HO_7, HB⟩ := hcut
                cases kq with
                | zero => exact absurd HA.out (by simp [trammelref1_Tokens.j1])
                | succ kj7 =>
                  have H := HA.out
                  clear HA
                  simp only [trammelref1_Tokens.j1] at H
                  by_cases c11 : x47_7 = true
                  · subst c11
                    have H1 : (trammelref1_Tokens.l0 kj7 a0 x7_1 (wrap64 (x8_1 + 1))) = some (r1, r2, r3) := by rw [if_pos rfl] at H; exact H
                    clear H
                    have H := H1
                    clear H1
                    have H' := Aside0.mk H
                    clear H
                    go_wp2
                    go_roundg kj7
                    case measure => have := HK1.out; have := HJ7.out; omega
                    case rel => exact ⟨(x7_1), (wrap64 (x8_1 + 1)), (by first | rfl | (simp; done) | (simp [*]; done)), H', ⟨by have := HK1.out; have := HJ7.out; omega⟩, ⟨by (with_reducible repeat (first | apply Kd.R_alloc | apply Kd.R_drewN | apply Kd.R_drew)); exact HO_7.out⟩, ⟨by repeat (first | (with_reducible first | exact HB.out | apply below_alloc | apply pw_below_drewN | apply below_drew1) | exact HB.out)⟩⟩
                  · replace c11 := Bool.eq_false_iff.mpr c11
                    subst c11
                    have H1 : (if (bt a0 x8_1) = 35 then (trammelref1_Tokens.l1 kj7 a0 x7_1 x8_1) else ((trammelref1_token.f kj7 a0 x8_1).bind fun bt171 => (if bt171.2.2.2.2.2 = 0 then (if x7_1.length < 3518437208883 then (trammelref1_Tokens.l0 kj7 a0 (x7_1 ++ [(⟨bt171.1, bt171.2.1, bt171.2.2.1, bt171.2.2.2.1⟩ : S60)]) bt171.2.2.2.2.1) else (none)) else (some (([] : List (S60)), x8_1, bt171.2.2.2.2.2))))) = some (r1, r2, r3) := by rw [if_neg (show ¬ (false = true) by decide)] at H; exact H
                    clear H
                    have H := H1
                    clear H1
                    by_cases c12 : (bt a0 x8_1) = 35
                    · rw [if_pos c12] at H
                      have c12b0 : ((bt a0 x8_1) == 35) = true := beq_iff_eq.mpr c12
                      have c12b1 : ((bt a0 x8_1) != 35) = false := bne_eq_false_iff_eq.mpr c12
                      clear c12
                      have H' := Aside0.mk H
                      clear H
                      go_wp2
                      go_loopg [8] kj7 (fun kq v8 w' => ∃ (x8_3 : Int), v8 = .int .i64 x8_3 ∧ Aside0 (trammelref1_Tokens.l1 kq a0 x7_1 x8_3 = some (r1, r2, r3)) ∧ Aside0 (kq ≤ kj7) ∧ Aside0 (Kd.R k60 60 w' w.heap.size (fun _ => True) u7 x7_1) ∧ Aside0 (Below w.heap.size w w'))
                      case atStart => exact ⟨(x8_1), (by first | rfl | (simp; done) | (simp [*]; done)), H', ⟨Nat.le_refl _⟩, ⟨by (with_reducible repeat (first | apply Kd.R_alloc | apply Kd.R_drewN | apply Kd.R_drew)); exact HO_7.out⟩, ⟨by repeat (first | (with_reducible first | exact HB.out | apply below_alloc | apply pw_below_drewN | apply below_drew1) | exact HB.out)⟩⟩
                      case round =>
                        clear H'
                        try clear c1
                        try clear c2
                        try clear c2b0
                        try clear c2b1
                        try clear p2
                        try clear c4
                        try clear c5
                        try clear c5b0
                        try clear c6
                        try clear c6b0
                        try clear p6
                        try clear p7
                        try clear q7
                        try clear hx7
                        try clear c9
                        try clear c9b0
                        try clear c9b1
                        try clear c10
                        try clear c10b0
                        try clear c10b1
                        try clear c11
                        try clear c12
                        try clear c12b0
                        try clear c12b1
                        try clear p2
                        try clear p7
                        try clear q7
                        obtain ⟨x8_3, rfl, HA, HK3, HO_7, HB⟩ := hrel
                        cases gk with
                        | zero => exact absurd HA.out (by simp [trammelref1_Tokens.l1])
                        | succ k3 =>
                          have H := HA.out
                          clear HA
                          simp only [trammelref1_Tokens.l1] at H
                          by_cases c13 : x8_3 < (a0.size : Int)
                          · rw [if_pos c13] at H
                            have c13b0 : decide (x8_3 < (a0.size : Int)) = true := decide_eq_true c13
                            clear c13
                            by_cases c14 : 0 ≤ x8_3
                            · rw [if_pos c14] at H
                              have c14b0 : decide (0 ≤ x8_3) = true := decide_eq_true c14
                              clear c14
                              by_cases c16 : (bt a0 x8_3) = 10
                              · rw [if_pos c16] at H
                                have c16b0 : ((bt a0 x8_3) == 10) = true := beq_iff_eq.mpr c16
                                have c16b1 : ((bt a0 x8_3) != 10) = false := bne_eq_false_iff_eq.mpr c16
                                clear c16
                                have H' := Aside0.mk H
                                clear H
                                have p15 : 0 ≤ (x8_3 : Int) := of_decide_eq_true (by first | (with_reducible assumption) | assumption)
                                have q15 : x8_3 < (a0.size : Int) := of_decide_eq_true (by first | (with_reducible assumption) | assumption)
                                have hx15 := bt_at a0 x8_3
                                replace p15 := eq_true p15
                                replace q15 := eq_true q15
                                go_wp2
                                go_roundg k3
                                case measure => have := HK1.out; have := HJ7.out; have := HK3.out; omega
                                case rel => exact ⟨(x7_1), (x8_3), (by first | rfl | (simp; done) | (simp [*]; done)), H', ⟨by have := HK1.out; have := HJ7.out; have := HK3.out; omega⟩, ⟨by (with_reducible repeat (first | apply Kd.R_alloc | apply Kd.R_drewN | apply Kd.R_drew)); exact HO_7.out⟩, ⟨by repeat (first | (with_reducible first | exact HB.out | apply below_alloc | apply pw_below_drewN | apply below_drew1) | exact HB.out)⟩⟩
                              · rw [if_neg c16] at H
                                have c16b0 : ((bt a0 x8_3) == 10) = false := beq_eq_false_iff_ne.mpr c16
                                have c16b1 : ((bt a0 x8_3) != 10) = true := bne_iff_ne.mpr c16
                                have H' := Aside0.mk H
                                clear H
                                have p15 : 0 ≤ (x8_3 : Int) := of_decide_eq_true (by first | (with_reducible assumption) | assumption)
                                have q15 : x8_3 < (a0.size : Int) := of_decide_eq_true (by first | (with_reducible assumption) | assumption)
                                have hx15 := bt_at a0 x8_3
                                replace p15 := eq_true p15
                                replace q15 := eq_true q15
                                go_wp2
                                go_roundg k3
                                case measure => have := HK1.out; have := HJ7.out; have := HK3.out; omega
                                case rel => exact ⟨(wrap64 (x8_3 + 1)), (by first | rfl | (simp; done) | (simp [*]; done)), H', ⟨by have := HK1.out; have := HJ7.out; have := HK3.out; omega⟩, ⟨by (with_reducible repeat (first | apply Kd.R_alloc | apply Kd.R_drewN | apply Kd.R_drew)); exact HO_7.out⟩, ⟨by repeat (first | (with_reducible first | exact HB.out | apply below_alloc | apply pw_below_drewN | apply below_drew1) | exact HB.out)⟩⟩
                            · rw [if_neg c14] at H
                              exact absurd H (by simp)
                          · rw [if_neg c13] at H
                            have c13b0 : decide (x8_3 < (a0.size : Int)) = false := decide_eq_false c13
                            clear c13
                            have H' := Aside0.mk H
                            clear H
                            go_wp2
                            go_roundg k3
                            case measure => have := HK1.out; have := HJ7.out; have := HK3.out; omega
                            case rel => exact ⟨(x7_1), (x8_3), (by first | rfl | (simp; done) | (simp [*]; done)), H', ⟨by have := HK1.out; have := HJ7.out; have := HK3.out; omega⟩, ⟨by (with_reducible repeat (first | apply Kd.R_alloc | apply Kd.R_drewN | apply Kd.R_drew)); exact HO_7.out⟩, ⟨by repeat (first | (with_reducible first | exact HB.out | apply below_alloc | apply pw_below_drewN | apply below_drew1) | exact HB.out)⟩⟩
                    · rw [if_neg c12] at H
                      have c12b0 : ((bt a0 x8_1) == 35) = false := beq_eq_false_iff_ne.mpr c12
                      have c12b1 : ((bt a0 x8_1) != 35) = true := bne_iff_ne.mpr c12
                      replace H := Option.bind_eq_some_iff.mp H
                      obtain ⟨⟨t171, t172, t173, t174, t175, t176⟩, A170, H⟩ := H
                      replace H : (if t176 = 0 then (if x7_1.length < 3518437208883 then (trammelref1_Tokens.l0 kj7 a0 (x7_1 ++ [(⟨t171, t172, t173, t174⟩ : S60)]) t175) else (none)) else (some (([] : List (S60)), x8_1, t176))) = some (r1, r2, r3) := H
                      have A17 := Aside0.mk A170
                      clear A170
                      by_cases c18 : t176 = 0
                      · rw [if_pos c18] at H
                        have c18b0 : (t176 == 0) = true := beq_iff_eq.mpr c18
                        have c18b1 : (t176 != 0) = false := bne_eq_false_iff_eq.mpr c18
                        clear c18
                        by_cases c19 : x7_1.length < 3518437208883
                        · rw [if_pos c19] at H
                          have LMc19 := Aside0.mk c19
                          clear c19
                          obtain ⟨y178, hy178⟩ : ∃ y_ : List (S60), y_ = (x7_1 ++ [(⟨t171, t172, t173, t174⟩ : S60)]) := ⟨_, rfl⟩
                          replace H : (trammelref1_Tokens.l0 kj7 a0 y178 t175) = some (r1, r2, r3) := by first | (rw [hy178]; with_reducible exact H) | (have H2_ := (Option.bind_some _ _).symm.trans H; rw [hy178]; with_reducible exact H2_) | (have H2_ := (Option.bind_some _ _).symm.trans H; with_reducible exact H2_) | with_reducible exact H | (rw [hy178]; exact H) | exact H
                          have Ny178 := Aside0.mk hy178
                          clear hy178
                          have H' := Aside0.mk H
                          clear H
                          go_wp2_with (first | ((with_reducible refine gate_callee (f := 58) rfl ?_); refine goesL_ (some 34) rfl rfl Tryd.func58 (by kernel_rfl) rfl #[.string a0, .int .i64 x8_1] rfl (by (try simp only [List.map_toArray, List.map_cons, List.map_nil]); first | done | rfl | (simp only [List.length_drop, List.length_take]; rfl)) ?_; (with_reducible refine (trammelref1_token.calls kj7 a0 x8_1 t171 t172 t173 t174 t175 t176 _ A17.out).mono ?_); rintro e w20 ⟨rfl, hb⟩; refine ⟨_, rfl, ?_⟩; have n0_ := Aside0.mk (Kd.R_below (by (with_reducible repeat (first | apply Kd.R_alloc | apply Kd.R_drewN | apply Kd.R_drew)); exact HO_7.out) hb); have n1_ := Aside0.mk (below_step (by repeat (first | (with_reducible first | exact HB.out | apply below_alloc | apply pw_below_drewN | apply below_drew1) | exact HB.out)) hb); clear HO_7; clear HB; have HO_7 := n0_; have HB := n1_; clear n0_ n1_; (try clear hb); (try clear hb2); (try clear hk); (try clear hi)) | ((with_reducible refine gate_dst (N := 10) rfl ?_); refine box_event ?hg (N := 10) ?hd (cs := #[.int .i64 0, .string (⟨#[]⟩ : ByteArray), .int .i64 0, .int .i64 0]) (t := 60) ?hr ?_; (case hd => rfl); (case hg => rfl); (case hr => first | (go_simp; done) | (go_simp; rfl)); intro gb177 hg w21 hbox hb; have n0_ := Aside0.mk (Kd.R_below (Kd.R_elderB (by (with_reducible repeat (first | apply Kd.R_alloc | apply Kd.R_drewN | apply Kd.R_drew)); exact HO_7.out) gb177 (Nat.le_of_eq hg.symm)) hb); have n1_ := Aside0.mk (below_step (by repeat (first | (with_reducible first | exact HB.out | apply below_alloc | apply pw_below_drewN | apply below_drew1) | exact HB.out)) hb); have n2_ := Aside0.mk (hbox); have n3_ := Aside0.mk ((by rw [hg]; exact (below_size (by repeat (first | (with_reducible first | exact HB.out | apply below_alloc | apply pw_below_drewN | apply below_drew1) | exact HB.out))) : w.heap.size ≤ gb177)); have n4_ := Aside0.mk ((by rw [hg]; exact (below_size (by repeat (first | (with_reducible first | exact HB.out | apply below_alloc | apply pw_below_drewN | apply below_drew1) | exact HB.out))) : w.heap.size ≤ gb177)); clear HO_7; clear HB; have HO_7 := n0_; have HB := n1_; have BK177 := n2_; have GW177 := n3_; have GE177 := n4_; clear n0_ n1_ n2_ n3_ n4_; clear hb hbox hg; have hcz22_0 : w21.cell? ⟨gb177, 0, none⟩ = some (.int .i64 0) := (blk_cell BK177.out 0).trans rfl; have hcz22_1 : w21.cell? ⟨gb177, 1, none⟩ = some (.string (⟨#[]⟩ : ByteArray)) := (blk_cell BK177.out 1).trans rfl; have hcz22_2 : w21.cell? ⟨gb177, 2, none⟩ = some (.int .i64 0) := (blk_cell BK177.out 2).trans rfl; have hcz22_3 : w21.cell? ⟨gb177, 3, none⟩ = some (.int .i64 0) := (blk_cell BK177.out 3).trans rfl; have hfz22_0 := blk_frozen BK177.out 0; have hfz22_1 := blk_frozen BK177.out 1; have hfz22_2 := blk_frozen BK177.out 2; have hfz22_3 := blk_frozen BK177.out 3) | ((with_reducible refine gate_builtin (b := .append) (xs := #[.tmp 42, .tmp 44]) rfl ?_); at_builtin; refine Kd.R_append k60 (w0 := w) w.heap.size rfl (.tmp 42) (.tmp 44) 50 60 (.agg #[(.int .i64 0), (.string ⟨#[]⟩), (.int .i64 0), (.int .i64 0)]) 40 rfl Tryd.underlying50 info60 rfl (by decide) (by omega) u7 x7_1 (⟨t171, t172, t173, t174⟩ : S60) [.int .i64 t171, .string t172, .int .i64 t173, .int .i64 t174] (fun k_ => k_ ≠ gb177) (fun _ => False) rfl (by first | (go_simp; done) | (go_simp; rfl)) ?aP (fun _ hk => hk.elim) ?aF ?aO ?aB ?aS ?aL ?_; (case aP => exact k60_mkM _ _ _ (⟨t171, t172, t173, t174⟩ : S60)); (case aB => exact (by repeat (first | (with_reducible first | exact HB.out | apply below_alloc | apply pw_below_drewN | apply below_drew1 | refine below_set ?_ GE177.out) | exact HB.out))); (case aF => exact (fun k_ hk => Kd.freshB (g := gb177) (o := .cells #[.int .i64 t171, .string t172, .int .i64 t173, .int .i64 t174] 60 (0, 0)) (by (with_reducible repeat (first | refine blk_drewN ?_ _ | refine blk_drew ?_ | refine blk_alloc ?_ _)); refine blk_put (cs := #[.int .i64 t171, .string t172, .int .i64 t173, .int .i64 0]) ?_ 3 _ rfl; (with_reducible repeat (first | refine blk_drewN ?_ _ | refine blk_drew ?_ | refine blk_alloc ?_ _)); refine blk_put (cs := #[.int .i64 t171, .string t172, .int .i64 0, .int .i64 0]) ?_ 2 _ rfl; (with_reducible repeat (first | refine blk_drewN ?_ _ | refine blk_drew ?_ | refine blk_alloc ?_ _)); refine blk_put (cs := #[.int .i64 t171, .string (⟨#[]⟩ : ByteArray), .int .i64 0, .int .i64 0]) ?_ 1 _ rfl; (with_reducible repeat (first | refine blk_drewN ?_ _ | refine blk_drew ?_ | refine blk_alloc ?_ _)); refine blk_put (cs := #[.int .i64 0, .string (⟨#[]⟩ : ByteArray), .int .i64 0, .int .i64 0]) ?_ 0 _ rfl; (with_reducible repeat (first | refine blk_drewN ?_ _ | refine blk_drew ?_ | refine blk_alloc ?_ _)); exact BK177.out) k_ hk)); (case aO => exact (by (with_reducible repeat (first | apply Kd.R_alloc | apply Kd.R_drewN | apply Kd.R_drew)); exact Kd.R_mono (Kd.R_far (p := ⟨gb177, 3, none⟩) (Kd.R_far (p := ⟨gb177, 2, none⟩) (Kd.R_far (p := ⟨gb177, 1, none⟩) (Kd.R_far (p := ⟨gb177, 0, none⟩) (Kd.R_mono HO_7.out (fun k_ hk => (⟨hk, hk.2⟩ : _ ∧ k_ ≠ gb177))) (fun _ hk => hk.2) (.int .i64 t171)) (fun _ hk => hk.2) (.string t172)) (fun _ hk => hk.2) (.int .i64 t173)) (fun _ hk => hk.2) (.int .i64 t174)) (fun _ hk => hk.1.2))); (case aS => exact (below_size (by repeat (first | (with_reducible first | exact HB.out | apply below_alloc | apply pw_below_drewN | apply below_drew1 | refine below_set ?_ GE177.out) | exact HB.out)))); (case aL => have := LMc19.out; omega); intro v179 w23 ho hb hg hat; rw [← Ny178.out] at ho; have n0_ := Aside0.mk (blk_grown (g := gb177) (o := .cells #[.int .i64 t171, .string t172, .int .i64 t173, .int .i64 t174] 60 (0, 0)) (by (with_reducible repeat (first | refine blk_drewN ?_ _ | refine blk_drew ?_ | refine blk_alloc ?_ _)); refine blk_put (cs := #[.int .i64 t171, .string t172, .int .i64 t173, .int .i64 0]) ?_ 3 _ rfl; (with_reducible repeat (first | refine blk_drewN ?_ _ | refine blk_drew ?_ | refine blk_alloc ?_ _)); refine blk_put (cs := #[.int .i64 t171, .string t172, .int .i64 0, .int .i64 0]) ?_ 2 _ rfl; (with_reducible repeat (first | refine blk_drewN ?_ _ | refine blk_drew ?_ | refine blk_alloc ?_ _)); refine blk_put (cs := #[.int .i64 t171, .string (⟨#[]⟩ : ByteArray), .int .i64 0, .int .i64 0]) ?_ 1 _ rfl; (with_reducible repeat (first | refine blk_drewN ?_ _ | refine blk_drew ?_ | refine blk_alloc ?_ _)); refine blk_put (cs := #[.int .i64 0, .string (⟨#[]⟩ : ByteArray), .int .i64 0, .int .i64 0]) ?_ 0 _ rfl; (with_reducible repeat (first | refine blk_drewN ?_ _ | refine blk_drew ?_ | refine blk_alloc ?_ _)); exact BK177.out) hg (Kd.R_away HO_7.out (fun _ hk => hk.2))); have n1_ := Aside0.mk (hb); have n2_ := Aside0.mk (ho); clear BK177; clear HB; clear HO_7; have BK177 := n0_; have HB := n1_; have HO180 := n2_; clear n0_ n1_ n2_; clear ho hb hg hat))
                          go_roundg kj7
                          case measure => have := HK1.out; have := HJ7.out; omega
                          case rel => exact ⟨(y178), (t175), (by first | rfl | (simp; done) | (simp [*]; done)), H', ⟨by have := HK1.out; have := HJ7.out; omega⟩, ⟨by (with_reducible repeat (first | apply Kd.R_alloc | apply Kd.R_drewN | apply Kd.R_drew)); exact Kd.R_mono HO180.out (fun _ hk => trivial)⟩, ⟨by repeat (first | (with_reducible first | exact HB.out | apply below_alloc | apply pw_below_drewN | apply below_drew1 | refine below_set ?_ GE177.out) | exact HB.out)⟩⟩
                        · rw [if_neg c19] at H
                          exact absurd H (by simp)
                      · rw [if_neg c18] at H
                        have c18b0 : (t176 == 0) = false := beq_eq_false_iff_ne.mpr c18
                        have c18b1 : (t176 != 0) = true := bne_iff_ne.mpr c18
                        simp only [Option.some.injEq, Prod.mk.injEq] at H
                        obtain ⟨rfl, rfl, rfl⟩ := H
                        go_wp2_with (first | ((with_reducible refine gate_callee (f := 58) rfl ?_); refine goesL_ (some 34) rfl rfl Tryd.func58 (by kernel_rfl) rfl #[.string a0, .int .i64 x8_1] rfl (by (try simp only [List.map_toArray, List.map_cons, List.map_nil]); first | done | rfl | (simp only [List.length_drop, List.length_take]; rfl)) ?_; (with_reducible refine (trammelref1_token.calls kj7 a0 x8_1 t171 t172 t173 t174 t175 t176 _ A17.out).mono ?_); rintro e w24 ⟨rfl, hb⟩; refine ⟨_, rfl, ?_⟩; have n0_ := Aside0.mk (Kd.R_below (by (with_reducible repeat (first | apply Kd.R_alloc | apply Kd.R_drewN | apply Kd.R_drew)); exact HO_7.out) hb); have n1_ := Aside0.mk (below_step (by repeat (first | (with_reducible first | exact HB.out | apply below_alloc | apply pw_below_drewN | apply below_drew1) | exact HB.out)) hb); clear HO_7; clear HB; have HO_7 := n0_; have HB := n1_; clear n0_ n1_; (try clear hb); (try clear hb2); (try clear hk); (try clear hi)) | ((with_reducible refine gate_dst (N := 10) rfl ?_); refine box_event ?hg (N := 10) ?hd (cs := #[.int .i64 0, .string (⟨#[]⟩ : ByteArray), .int .i64 0, .int .i64 0]) (t := 60) ?hr ?_; (case hd => rfl); (case hg => rfl); (case hr => first | (go_simp; done) | (go_simp; rfl)); intro gb177 hg w25 hbox hb; have n0_ := Aside0.mk (Kd.R_below (Kd.R_elderB (by (with_reducible repeat (first | apply Kd.R_alloc | apply Kd.R_drewN | apply Kd.R_drew)); exact HO_7.out) gb177 (Nat.le_of_eq hg.symm)) hb); have n1_ := Aside0.mk (below_step (by repeat (first | (with_reducible first | exact HB.out | apply below_alloc | apply pw_below_drewN | apply below_drew1) | exact HB.out)) hb); have n2_ := Aside0.mk (hbox); have n3_ := Aside0.mk ((by rw [hg]; exact (below_size (by repeat (first | (with_reducible first | exact HB.out | apply below_alloc | apply pw_below_drewN | apply below_drew1) | exact HB.out))) : w.heap.size ≤ gb177)); have n4_ := Aside0.mk ((by rw [hg]; exact (below_size (by repeat (first | (with_reducible first | exact HB.out | apply below_alloc | apply pw_below_drewN | apply below_drew1) | exact HB.out))) : w.heap.size ≤ gb177)); clear HO_7; clear HB; have HO_7 := n0_; have HB := n1_; have BK177 := n2_; have GW177 := n3_; have GE177 := n4_; clear n0_ n1_ n2_ n3_ n4_; clear hb hbox hg; have hcz26_0 : w25.cell? ⟨gb177, 0, none⟩ = some (.int .i64 0) := (blk_cell BK177.out 0).trans rfl; have hcz26_1 : w25.cell? ⟨gb177, 1, none⟩ = some (.string (⟨#[]⟩ : ByteArray)) := (blk_cell BK177.out 1).trans rfl; have hcz26_2 : w25.cell? ⟨gb177, 2, none⟩ = some (.int .i64 0) := (blk_cell BK177.out 2).trans rfl; have hcz26_3 : w25.cell? ⟨gb177, 3, none⟩ = some (.int .i64 0) := (blk_cell BK177.out 3).trans rfl; have hfz26_0 := blk_frozen BK177.out 0; have hfz26_1 := blk_frozen BK177.out 1; have hfz26_2 := blk_frozen BK177.out 2; have hfz26_3 := blk_frozen BK177.out 3))
                        go_ret3
                        exact ⟨_, by first | rfl | (simp [errW_none, errW_some] <;> rfl) | (simp [*, errW_none, errW_some] <;> rfl), by first | exact Kd.R_nil _ _ _ _ _ | exact Kd.N_nil _ _ _ _ _ | exact Kd.V_nil _ _ _ _ _ | exact Kd.Q_nil _ _ _ _ _ | exact Kd.S_nil _ _ _ _ _, by repeat (first | (with_reducible first | exact HB.out | apply below_alloc | apply pw_below_drewN | apply below_drew1 | refine below_set ?_ GE177.out) | exact HB.out)⟩
            · rw [if_neg c6] at H
              exact absurd H (by simp)
          · rw [if_neg c5] at H
            have c5b0 : decide (x8_1 < (a0.size : Int)) = false := decide_eq_false c5
            clear c5
            simp only [Option.some.injEq, Prod.mk.injEq] at H
            obtain ⟨rfl, rfl, rfl⟩ := H
            go_wp2
            go_ret3
            exact ⟨_, by first | rfl | (simp [errW_none, errW_some] <;> rfl) | (simp [*, errW_none, errW_some] <;> rfl), by (with_reducible repeat (first | apply Kd.R_alloc | apply Kd.R_drewN | apply Kd.R_drew)); exact HO_7.out, by repeat (first | (with_reducible first | exact HB.out | apply below_alloc | apply pw_below_drewN | apply below_drew1) | exact HB.out)⟩
    · replace c4 := Bool.eq_false_iff.mpr c4
      subst c4
      have H1 : (some (([] : List (S60)), t169, 200)) = some (r1, r2, r3) := by rw [if_neg (show ¬ (false = true) by decide)] at H; exact H
      clear H
      have H := H1
      clear H1
      simp only [Option.some.injEq, Prod.mk.injEq] at H
      obtain ⟨rfl, rfl, rfl⟩ := H
      go_enter Tryd.func28, Tryd.ntmps28
      go_wp2_with (first | ((with_reducible refine gate_callee (f := 57) rfl ?_); refine goesL_ (some 18) rfl rfl Tryd.func57 (by kernel_rfl) rfl #[.string a0] rfl (by (try simp only [List.map_toArray, List.map_cons, List.map_nil]); first | done | rfl | (simp only [List.length_drop, List.length_take]; rfl)) ?_; (with_reducible refine (trammelref1_Valid.calls k a0 t169 false _ A3.out).mono ?_); rintro e w' ⟨rfl, ⟨nd, rfl⟩⟩; refine ⟨_, rfl, ?_⟩))
      go_ret3
      exact ⟨_, by first | rfl | (simp [errW_none, errW_some] <;> rfl) | (simp [*, errW_none, errW_some] <;> rfl), by first | exact Kd.R_nil _ _ _ _ _ | exact Kd.N_nil _ _ _ _ _ | exact Kd.V_nil _ _ _ _ _ | exact Kd.Q_nil _ _ _ _ _ | exact Kd.S_nil _ _ _ _ _, by repeat (first | (with_reducible first | exact HB.out | apply below_alloc | apply pw_below_drewN | apply below_drew1) | exact HB.out)⟩

end Go.Proofs.YtnogfhhfklkbiaaDoor.H

set_option linter.unusedVariables false
set_option linter.unusedSimpArgs false
set_option maxHeartbeats 1000000
namespace Go.Proofs.YtnogfhhfklkbiaaDoor.H
open Go.RowKit Go.Proofs.YtnogfhhfklkbiaaDoorW.PrintWords Go.Proofs.YtnogfhhfklkbiaaDoorW.PrintLast Go.Proofs.YtnogfhhfklkbiaaDoorW.PrintMore
open Go.Proofs.YtnogfhhfklkbiaaDoor.Src

theorem first_is (c : UInt8) : trammelref1_first.f (c.toNat : Int) = some (isLet c) := by
  unfold trammelref1_first.f isLet
  by_cases h : (c.toNat : Int) ≥ 97
  · rw [if_pos h]
    have : decide (97 ≤ c.toNat) = true := decide_eq_true (by omega)
    rw [this, Bool.true_and]
    congr 1
    by_cases g : c.toNat ≤ 122
    · rw [decide_eq_true g, decide_eq_true (by omega)]
    · rw [decide_eq_false g, decide_eq_false (by omega)]
  · rw [if_neg h]
    have : decide (97 ≤ c.toNat) = false := decide_eq_false (by omega)
    rw [this, Bool.false_and]
theorem digit_is (c : UInt8) : trammelref1_digit.f (c.toNat : Int) = some (isDig c) := by
  unfold trammelref1_digit.f isDig
  by_cases h : (c.toNat : Int) ≥ 48
  · rw [if_pos h]
    have : decide (48 ≤ c.toNat) = true := decide_eq_true (by omega)
    rw [this, Bool.true_and]
    congr 1
    by_cases g : c.toNat ≤ 57
    · rw [decide_eq_true g, decide_eq_true (by omega)]
    · rw [decide_eq_false g, decide_eq_false (by omega)]
  · rw [if_neg h]
    have : decide (48 ≤ c.toNat) = false := decide_eq_false (by omega)
    rw [this, Bool.false_and]
theorem byte_beq (c : UInt8) (n : Nat) (h : n < 256) : ((c.toNat : Int) == (n : Int)) = (c == UInt8.ofNat n) := by
  by_cases e : c = UInt8.ofNat n
  · subst e
    simp
    omega
  · rw [beq_eq_false_iff_ne.2 e]
    rw [beq_eq_false_iff_ne]
    intro hh
    apply e
    apply UInt8.toNat_inj.1
    simp
    omega
theorem later_is (c : UInt8) : trammelref1_later.f (c.toNat : Int) = some (isMore c) := by
  unfold trammelref1_later.f isMore
  rw [first_is, Option.bind_some]
  cases isLet c
  · rw [if_neg (by decide), digit_is, Option.bind_some]
    cases isDig c
    · rw [if_neg (by decide)]
      have := byte_beq c 95 (by decide)
      rw [show ((95 : Nat) : Int) = 95 from rfl] at this
      rw [this]
      rfl
    · rfl
  · rfl
def lettersL : List UInt8 → Bool
  | [] => false
  | c :: r => isLet c && r.all isMore
theorem lettersL_cons (c : UInt8) (r : List UInt8) : lettersL (c :: r) = (isLet c && r.all isMore) := rfl
theorem letters_loop (s : ByteArray) (hs : s.size ≤ 1152921504606846976) : ∀ (d i k : Nat), s.size - i = d → d < k → trammelref1_letters.l0 k s (i : Int) = some ((s.data.toList.drop i).all isMore) := by
  have hl := list_size s
  intro d
  induction d with
  | zero =>
    intro i k hd hk
    obtain ⟨k, rfl⟩ : ∃ m, k = m + 1 := ⟨k - 1, by omega⟩
    simp only [trammelref1_letters.l0]
    rw [if_neg (by omega), List.drop_eq_nil_of_le (by omega)]
    rfl
  | succ d ih =>
    intro i k hd hk
    obtain ⟨k, rfl⟩ : ∃ m, k = m + 1 := ⟨k - 1, by omega⟩
    have hlt : i < s.data.toList.length := by omega
    simp only [trammelref1_letters.l0]
    rw [if_pos (by omega), if_pos (by omega), bt_list s i _ (List.getElem?_eq_getElem hlt), later_is, Option.bind_some, List.drop_eq_getElem_cons hlt, List.all_cons]
    cases isMore s.data.toList[i]
    · rfl
    · rw [if_pos rfl, wrapS (by omega) (by omega), show ((i : Int) + 1) = ((i + 1 : Nat) : Int) from by omega, ih (i + 1) k (by omega) (by omega), Bool.true_and]
theorem letters_is (s : ByteArray) (hs : s.size ≤ 1152921504606846976) (k : Nat) (hk : s.size + 3 ≤ k) : trammelref1_letters.f k s = some (lettersL s.data.toList) := by
  obtain ⟨k, rfl⟩ : ∃ m, k = m + 1 := ⟨k - 1, by omega⟩
  have hl := list_size s
  unfold trammelref1_letters.f
  rw [toList_data]
  by_cases h0 : s.data.toList = []
  · rw [if_pos h0, h0]
    rfl
  · rw [if_neg h0]
    obtain ⟨c, r, hcr⟩ := List.exists_cons_of_ne_nil h0
    have hz : 0 < s.size := by rw [← hl, hcr]; exact Nat.succ_pos _
    have hb : bt s 0 = (c.toNat : Int) := bt_list s 0 c (by rw [hcr]; rfl)
    rw [if_pos (by omega), hb, first_is, Option.bind_some]
    have lp := letters_loop s hs (s.size - 1) 1 k rfl (by omega)
    rw [show ((1 : Nat) : Int) = 1 from rfl] at lp
    simp only [trammelref1_letters.j0]
    rw [lp, hcr, lettersL_cons, List.drop_one, List.tail_cons]
    cases isLet c <;> simp
def wordsL : List UInt8 := [32, 102, 117, 110, 32, 108, 101, 116, 32, 114, 101, 99, 32, 105, 110, 32, 105, 102, 32, 116, 104, 101, 110, 32, 101, 108, 115, 101, 32, 104, 97, 110, 100, 108, 101, 32, 119, 105, 116, 104, 32, 114, 101, 116, 117, 114, 110, 32, 101, 110, 100, 32, 100, 111, 32, 111, 112, 32, 116, 114, 117, 101, 32, 102, 97, 108, 115, 101, 32, 105, 110, 116, 32, 98, 111, 111, 108, 32]
/-- Is a text found in the words, from a place on? -/
def kwS (t : List UInt8) : Nat → Nat → Bool
  | 0, _ => false
  | d + 1, i => if i + t.length ≤ 78 then ((wordsL.drop i).take t.length == t || kwS t d (i + 1)) else false
theorem kwS_iff (t : List UInt8) : ∀ d i, 79 ≤ d + i → (kwS t d i = true ↔ ∃ j, i ≤ j ∧ j + t.length ≤ 78 ∧ (wordsL.drop j).take t.length = t) := by
  intro d
  induction d with
  | zero =>
    intro i h
    simp only [kwS, Bool.false_eq_true, false_iff]
    rintro ⟨j, h1, h2, _⟩
    omega
  | succ d ih =>
    intro i h
    unfold kwS
    by_cases hi : i + t.length ≤ 78
    · rw [if_pos hi, Bool.or_eq_true, beq_iff_eq, ih (i + 1) (by omega)]
      constructor
      · rintro (h1 | ⟨j, h1, h2, h3⟩)
        · exact ⟨i, Nat.le_refl _, hi, h1⟩
        · exact ⟨j, by omega, h2, h3⟩
      · rintro ⟨j, h1, h2, h3⟩
        by_cases e : j = i
        · subst e; exact .inl h3
        · exact .inr ⟨j, by omega, h2, h3⟩
    · rw [if_neg hi]
      simp only [Bool.false_eq_true, false_iff]
      rintro ⟨j, h1, h2, _⟩
      omega
theorem words_all : ∀ (i n : Fin 79), (let g := (wordsL.drop i.val).take (n.val + 2); !(g.length == n.val + 2 && (g.head? == some 32 && (g.getLast? == some 32 && lettersL (g.tail.dropLast)))) || kw (g.tail.dropLast)) = true := by decide +kernel
theorem kw_found : (kwL.all fun l => kwS (32 :: (l ++ [32])) 80 0 && lettersL l) = true := by decide +kernel
theorem kwS_kw (l : List UInt8) : (lettersL l && kwS (32 :: (l ++ [32])) 80 0) = kw l := by
  by_cases hk : kw l = true
  · have := List.all_eq_true.1 kw_found l (by unfold kw at hk; exact List.contains_iff_mem.1 hk)
    rw [Bool.and_eq_true] at this
    rw [hk, this.1, this.2]
    rfl
  · rw [Bool.not_eq_true] at hk
    rw [hk]
    rw [Bool.eq_false_iff]
    intro h
    rw [Bool.and_eq_true, kwS_iff _ _ _ (by decide)] at h
    obtain ⟨hlet, j, _, h2, h3⟩ := h
    have hlen : (32 :: (l ++ [32])).length = l.length + 2 := by simp
    rw [hlen] at h2 h3
    have w := words_all ⟨j, by omega⟩ ⟨l.length, by omega⟩
    simp only at w
    rw [h3] at w
    have e1 : (32 :: (l ++ [32])).tail.dropLast = l := by simp
    have e2 : (32 :: (l ++ [32])).getLast? = some 32 := by
      rw [← List.cons_append, List.getLast?_append]; rfl
    rw [e1, e2, hlen, hlet, hk] at w
    simp at w
theorem extract_any (s : ByteArray) (i j : Nat) : (s.extract i j).data.toList = (s.data.toList.drop i).take (j - i) := by
  simp
theorem refKw_loop (t : ByteArray) (hs : t.size ≤ 1000000000000000) : ∀ (d i k : Nat), d + i = 80 → i ≤ 80 → d < k → trammelref1_Keyword.l0 k t (i : Int) = some (kwS t.data.toList d i) := by
  have hl := list_size t
  intro d
  induction d with
  | zero =>
    intro i k hd hi hk
    obtain ⟨k, rfl⟩ : ∃ m, k = m + 1 := ⟨k - 1, by omega⟩
    simp only [trammelref1_Keyword.l0]
    rw [wrapS (by omega) (by omega), if_neg (by omega)]
    rfl
  | succ d ih =>
    intro i k hd hi hk
    obtain ⟨k, rfl⟩ : ∃ m, k = m + 1 := ⟨k - 1, by omega⟩
    simp only [trammelref1_Keyword.l0]
    unfold kwS
    rw [wrapS (by omega) (by omega), hl]
    by_cases h : i + t.size ≤ 78
    · rw [if_pos (by omega), if_pos (by omega), if_pos (by omega), if_pos h, toList_data, toList_data, extract_any, show ((i : Int) + (t.size : Int)).toNat - (i : Int).toNat = t.size from by omega, Int.toNat_natCast]
      change (if (wordsL.drop i).take t.size = t.data.toList then some true else trammelref1_Keyword.l0 k t (wrap64 ((i : Int) + 1))) = _
      by_cases e : (wordsL.drop i).take t.size = t.data.toList
      · have e' : ((wordsL.drop i).take t.size == t.data.toList) = true := beq_iff_eq.2 e
        rw [e', if_pos e]
        rfl
      · have e' : ((wordsL.drop i).take t.size == t.data.toList) = false := beq_eq_false_iff_ne.2 e
        rw [e', if_neg e, wrapS (by omega) (by omega), show ((i : Int) + 1) = ((i + 1 : Nat) : Int) from by omega, ih (i + 1) k (by omega) (by omega) (by omega), Bool.false_or]
    · rw [if_neg (by omega), if_neg h]
theorem refKw_is (s : ByteArray) (hs : s.size ≤ 562949953421312) (k : Nat) (hk : s.size + 100 ≤ k) : trammelref1_Keyword.f k s = some (kw s.data.toList) := by
  unfold trammelref1_Keyword.f
  rw [letters_is s (by omega) k (by omega), Option.bind_some, ← kwS_kw]
  cases hL : lettersL s.data.toList
  · rw [if_neg (by decide), Bool.false_and]
  · have z1 : ((⟨#[32]⟩ : ByteArray) ++ s).size = 1 + s.size := by rw [ByteArray.size_append]; rfl
    have z2 : (((⟨#[32]⟩ : ByteArray) ++ s) ++ (⟨#[32]⟩ : ByteArray)).size = 1 + s.size + 1 := by rw [ByteArray.size_append, z1]; rfl
    rw [if_pos rfl, if_pos (by omega), if_pos (by rw [z1]; omega), Bool.true_and]
    have := refKw_loop (((⟨#[32]⟩ : ByteArray) ++ s) ++ (⟨#[32]⟩ : ByteArray)) (by rw [z2]; omega) 80 0 k rfl (by decide) (by omega)
    rw [show ((0 : Nat) : Int) = 0 from rfl] at this
    rw [this]
    congr 2
theorem foldl_big (r : List UInt8) : ∀ x : Nat, x * 10 ^ r.length ≤ r.foldl (fun x c => 10 * x + (c.toNat - 48)) x := by
  induction r with
  | nil => intro x; simp
  | cons c r ih =>
    intro x
    have h := ih (10 * x + (c.toNat - 48))
    rw [List.foldl_cons]
    refine Nat.le_trans ?_ h
    rw [List.length_cons, Nat.pow_succ]
    calc x * (10 ^ r.length * 10) = (10 * x) * 10 ^ r.length := by rw [Nat.mul_comm (10 ^ r.length) 10, ← Nat.mul_assoc, Nat.mul_comm x 10]
      _ ≤ _ := Nat.mul_le_mul_right _ (by omega)
theorem num_long (l : List UInt8) (h : 10 < l.length) (hd : l.all isDig = true) (h48 : l.head? ≠ some 48) : 1073741823 < numV l := by
  cases l with
  | nil => simp at h
  | cons c r =>
    rw [List.all_cons, Bool.and_eq_true] at hd
    have hc := dig_of hd.1
    have hc1 : 1 ≤ c.toNat - 48 := by
      have : c.toNat ≠ 48 := fun e => h48 (by
        rw [List.head?_cons]
        congr 1
        exact UInt8.toNat_inj.1 (by rw [e]; rfl))
      omega
    have hb := foldl_big r (c.toNat - 48)
    have e : numV (c :: r) = r.foldl (fun x c => 10 * x + (c.toNat - 48)) (c.toNat - 48) := by
      unfold numV
      rw [List.foldl_cons]
      congr 1
      omega
    rw [e]
    have hp : 10 ^ 10 ≤ 10 ^ r.length := Nat.pow_le_pow_right (by decide) (by simp at h; omega)
    have hq : 1 * 10 ^ r.length ≤ (c.toNat - 48) * 10 ^ r.length := Nat.mul_le_mul_right _ hc1
    have : (10 : Nat) ^ 10 = 10000000000 := by decide
    omega
theorem num_ten2 (n : Nat) (hn : n ≤ 1000000000000) : wrap64 (10 * (n : Int)) = 10 * (n : Int) := by unfold wrap64; omega
theorem num_step2 (n d : Nat) (hn : n ≤ 1000000000000) (hd : d ≤ 9) : wrap64 (10 * (n : Int) + (d : Int)) = ((10 * n + d : Nat) : Int) := by unfold wrap64; omega
theorem numV_small (l : List UInt8) (hd : l.all isDig = true) : numV l < 10 ^ l.length := by
  have : ∀ (r : List UInt8), r.all isDig = true → ∀ x, r.foldl (fun x c => 10 * x + (c.toNat - 48)) x < (x + 1) * 10 ^ r.length := by
    intro r
    induction r with
    | nil => intro _ x; simp
    | cons c r ih =>
      intro hr x
      rw [List.all_cons, Bool.and_eq_true] at hr
      have hc := dig_of hr.1
      have h := ih hr.2 (10 * x + (c.toNat - 48))
      rw [List.foldl_cons]
      refine Nat.lt_of_lt_of_le h ?_
      rw [List.length_cons, Nat.pow_succ]
      calc (10 * x + (c.toNat - 48) + 1) * 10 ^ r.length ≤ (10 * (x + 1)) * 10 ^ r.length := Nat.mul_le_mul_right _ (by omega)
        _ = (x + 1) * (10 ^ r.length * 10) := by rw [Nat.mul_comm 10 (x + 1), Nat.mul_assoc, Nat.mul_comm 10]
  have := this l hd 0
  simpa [numV] using this
theorem refNum_loop (s : ByteArray) (hs : s.size ≤ 10) : ∀ (d i k : Nat), s.size - i = d → i ≤ s.size → d < k → (s.data.toList.take i).all isDig = true →
    trammelref1_number.l0 k s (numV (s.data.toList.take i) : Int) (i : Int) = some (if (s.data.toList.drop i).all isDig = true then ((numV s.data.toList : Int), decide ((numV s.data.toList : Int) ≤ 1073741823)) else (0, false)) := by
  have hl := list_size s
  intro d
  induction d with
  | zero =>
    intro i k hdd hi hk hn
    obtain ⟨k, rfl⟩ : ∃ m, k = m + 1 := ⟨k - 1, by omega⟩
    have : i = s.size := by omega
    subst this
    have e : s.data.toList.take s.size = s.data.toList := List.take_of_length_le (by omega)
    rw [e]
    simp only [trammelref1_number.l0]
    rw [if_neg (by omega), List.drop_eq_nil_of_le (by omega)]
    rfl
  | succ d ih =>
    intro i k hdd hi hk hn
    obtain ⟨k, rfl⟩ : ∃ m, k = m + 1 := ⟨k - 1, by omega⟩
    have hlt : i < s.data.toList.length := by omega
    have hg : s.data.toList[i]? = some s.data.toList[i] := List.getElem?_eq_getElem hlt
    simp only [trammelref1_number.l0]
    rw [if_pos (by omega), if_pos (by omega), bt_list s i _ hg, digit_is, Option.bind_some, List.drop_eq_getElem_cons hlt, List.all_cons]
    by_cases hd : isDig s.data.toList[i] = true
    · have hc := dig_of hd
      have e1 : numV (s.data.toList.take (i + 1)) = 10 * numV (s.data.toList.take i) + (s.data.toList[i].toNat - 48) := by
        rw [List.take_succ_eq_append_getElem hlt, numV_snoc]
      have hv : numV (s.data.toList.take i) ≤ 1000000000000 := by
        have h1 := numV_small _ hn
        rw [List.length_take] at h1
        have h2 : 10 ^ (min i s.data.toList.length) ≤ 10 ^ 10 := Nat.pow_le_pow_right (by decide) (by omega)
        have : (10 : Nat) ^ 10 = 10000000000 := by decide
        omega
      rw [if_pos hd, byte_dig _ hc.1 hc.2, num_ten2 _ hv, num_step2 _ _ hv (by omega), ← e1, wrapS (by omega) (by omega), show ((i : Int) + 1) = ((i + 1 : Nat) : Int) from by omega,
        ih (i + 1) k (by omega) (by omega) (by omega) (by rw [List.take_succ_eq_append_getElem hlt, List.all_append, hn, Bool.true_and]; simp only [List.all_cons, List.all_nil, Bool.and_true]; exact hd), hd, Bool.true_and]
    · rw [if_neg hd]
      have : isDig s.data.toList[i] = false := by simpa using hd
      rw [this]
      rfl
theorem refNum_is (s : ByteArray) (hs : s.size ≤ 1152921504606846976) (h0 : 0 < s.size) (k : Nat) (hk : 20 ≤ k) : ∃ x, trammelref1_number.f k s = some (x, numOk s.data.toList) ∧ (numOk s.data.toList = true → x = (numV s.data.toList : Int)) := by
  obtain ⟨k, rfl⟩ : ∃ m, k = m + 1 := ⟨k - 1, by omega⟩
  have hl := list_size s
  obtain ⟨c, r, hcr⟩ := List.exists_cons_of_ne_nil (show s.data.toList ≠ [] from fun h => by rw [h] at hl; simp at hl; omega)
  have hb : bt s 0 = (c.toNat : Int) := bt_list s 0 c (by rw [hcr]; rfl)
  unfold trammelref1_number.f
  by_cases h10 : (s.size : Int) > 10
  · rw [if_pos h10]
    simp only [trammelref1_number.j0]
    have : numOk s.data.toList = false := by
      rw [Bool.eq_false_iff]
      intro h
      unfold numOk at h
      rw [Bool.and_eq_true, Bool.and_eq_true, Bool.or_eq_true] at h
      obtain ⟨h1, h2, h3⟩ := h
      have hne : s.data.toList.head? ≠ some 48 := by
        rcases h2 with h2 | h2
        · have := of_decide_eq_true h2; omega
        · simpa using h2
      have := num_long s.data.toList (by omega) h1 hne
      have := of_decide_eq_true h3
      omega
    rw [this]
    exact ⟨0, rfl, fun h => by cases h⟩
  · rw [if_neg h10]
    have lp := refNum_loop s (by omega) s.size 0 k rfl (Nat.zero_le _) (by omega) rfl
    rw [show ((numV (s.data.toList.take 0) : Nat) : Int) = 0 from rfl, show ((0 : Nat) : Int) = 0 from rfl, List.drop_zero] at lp
    have fin : ∀ b : Bool, (b = true → numOk s.data.toList = false) → (b = false → numOk s.data.toList = (s.data.toList.all isDig && decide (numV s.data.toList ≤ 1073741823))) →
        ∃ x, trammelref1_number.j0 (k + 1) s b = some (x, numOk s.data.toList) ∧ (numOk s.data.toList = true → x = (numV s.data.toList : Int)) := by
      intro b h1 h2
      cases b
      · simp only [trammelref1_number.j0, Bool.false_eq_true, if_false]
        rw [lp, h2 rfl]
        cases hd : s.data.toList.all isDig
        · exact ⟨0, rfl, fun h => by cases h⟩
        · refine ⟨_, ?_, fun _ => rfl⟩
          rw [if_pos rfl, Bool.true_and]
          congr 2
          by_cases q : numV s.data.toList ≤ 1073741823
          · rw [decide_eq_true q, decide_eq_true (by omega)]
          · rw [decide_eq_false q, decide_eq_false (by omega)]
      · simp only [trammelref1_number.j0, if_true]
        rw [h1 rfl]
        exact ⟨0, rfl, fun h => by cases h⟩
    by_cases h1 : (s.size : Int) > 1
    · rw [if_pos h1, if_pos (by omega), hb]
      have e1 : decide (s.data.toList.length ≤ 1) = false := decide_eq_false (by omega)
      have e48 := byte_beq c 48 (by decide)
      rw [show ((48 : Nat) : Int) = 48 from rfl] at e48
      rw [e48]
      refine fin _ (fun h => ?_) (fun h => ?_)
      · have e2 : (s.data.toList.head? != some 48) = false := by rw [hcr, List.head?_cons, beq_iff_eq.1 h]; rfl
        unfold numOk
        rw [e1, e2]
        simp
      · have e2 : (s.data.toList.head? != some 48) = true := by
          rw [hcr, List.head?_cons]
          have : c ≠ 48 := beq_eq_false_iff_ne.1 h
          simpa using this
        unfold numOk
        rw [e1, e2]
        simp
    · rw [if_neg h1]
      refine fin false (fun h => by cases h) (fun _ => ?_)
      have e1 : decide (s.data.toList.length ≤ 1) = true := decide_eq_true (by omega)
      unfold numOk
      rw [e1]
      simp
end Go.Proofs.YtnogfhhfklkbiaaDoor.H

set_option linter.unusedVariables false
set_option linter.unusedSimpArgs false
set_option maxHeartbeats 1000000
namespace Go.Proofs.YtnogfhhfklkbiaaDoor.H
open Go.RowKit Go.Proofs.YtnogfhhfklkbiaaDoorW.PrintWords Go.Proofs.YtnogfhhfklkbiaaDoorW.PrintLast Go.Proofs.YtnogfhhfklkbiaaDoorW.PrintMore
open Go.Proofs.YtnogfhhfklkbiaaDoor.Src

/-- A token as the document's answer tells it. -/
def refT (p : Nat) (t : Tk) : Int × ByteArray × Int × Int × Int × Int := match t.2.2.2.2.2 with
  | some e => (0, (⟨#[]⟩ : ByteArray), 0, 0, 0, e)
  | none => (t.1, t.2.1, t.2.2.1, (p : Int), (p : Int) + t.2.2.2.2.1, 0)
theorem sign_loop (c : UInt8) : ∀ (d i k : Nat), d + i = 10 → d < k → trammelref1_sign.l0 k (c.toNat : Int) (i : Int) = some (decide (c ∈ signsB.data.toList.drop i)) := by
  intro d
  induction d with
  | zero =>
    intro i k hd hk
    obtain ⟨k, rfl⟩ : ∃ m, k = m + 1 := ⟨k - 1, by omega⟩
    have : i = 10 := by omega
    subst this
    simp only [trammelref1_sign.l0]
    rw [if_neg (by decide)]
    simp [signsB]
  | succ d ih =>
    intro i k hd hk
    obtain ⟨k, rfl⟩ : ∃ m, k = m + 1 := ⟨k - 1, by omega⟩
    have hlt : i < signsB.data.toList.length := by show i < 10; omega
    simp only [trammelref1_sign.l0]
    rw [if_pos (by omega), if_pos (by omega), show (⟨#[40, 41, 61, 43, 45, 42, 47, 60, 59, 58]⟩ : ByteArray) = signsB from rfl, bt_list signsB i _ (List.getElem?_eq_getElem hlt), List.drop_eq_getElem_cons hlt]
    by_cases h : signsB.data.toList[i] = c
    · rw [if_pos (by rw [h])]
      simp [h]
    · have hn : ¬ ((signsB.data.toList[i].toNat : Nat) : Int) = (c.toNat : Int) := fun e => h (UInt8.toNat_inj.1 (by omega))
      rw [if_neg hn, wrapS (by omega) (by omega), show ((i : Int) + 1) = ((i + 1 : Nat) : Int) from by omega, ih (i + 1) k (by omega) (by omega)]
      congr 1
      have h' : ¬ c = signsB.data.toList[i] := fun e => h e.symm
      simp only [List.mem_cons, h', false_or]
theorem sign_is (c : UInt8) (k : Nat) (hk : 20 ≤ k) : trammelref1_sign.f k (c.toNat : Int) = some (isSign c) := by
  unfold trammelref1_sign.f
  have := sign_loop c 10 0 k rfl (by omega)
  rw [show ((0 : Nat) : Int) = 0 from rfl, List.drop_zero, mem_signs] at this
  exact this
theorem let_more {c : UInt8} (h : isLet c = true) : isMore c = true ∧ c ≠ 95 ∧ isDig c = false := by
  have h2 : 97 ≤ c.toNat ∧ c.toNat ≤ 122 := by simpa [isLet] using h
  refine ⟨by simp [isMore, h], ?_, ?_⟩
  · rintro rfl
    exact absurd h2.1 (by decide)
  · unfold isDig
    rw [Bool.and_eq_false_iff]
    right
    exact decide_eq_false (by omega)
theorem dig_more {c : UInt8} (h : isDig c = true) : isMore c = true ∧ c ≠ 95 := by
  have h2 := dig_of h
  refine ⟨by simp [isMore, h], ?_⟩
  rintro rfl
  exact absurd h2.2 (by decide)
theorem two_len {l : List UInt8} (h : twoS l = true) : 2 ≤ l.length := by
  unfold twoS at h
  rw [Bool.or_eq_true, beq_iff_eq, beq_iff_eq] at h
  have h3 : (l.take 2).length = 2 := by rcases h with h | h <;> rw [h] <;> rfl
  rw [List.length_take] at h3
  omega
theorem two_sign {c : UInt8} {r : List UInt8} (h : twoS (c :: r) = true) : isSign c = true := by
  unfold twoS at h
  rw [Bool.or_eq_true, beq_iff_eq, beq_iff_eq, List.take_succ_cons, List.cons.injEq, List.cons.injEq] at h
  rcases h with h | h <;> rw [h.1] <;> rfl
theorem j2_is (s : ByteArray) (hs : s.size ≤ 1000000000000000) (p : Nat) (hp : p < s.size) (c : UInt8) (r : List UInt8) (hcr : s.data.toList.drop p = c :: r) (k : Nat) (hk : 30 ≤ k) :
    trammelref1_token.j2 k s (p : Int) 1 (twoS (c :: r)) = some (refT p (sgnL (c :: r))) := by
  obtain ⟨k, rfl⟩ : ∃ m, k = m + 1 := ⟨k - 1, by omega⟩
  have hl := list_size s
  have hlen : (c :: r).length = s.size - p := by rw [← hcr, List.length_drop, hl]
  have hb : bt s (p : Int) = (c.toNat : Int) := bt_list s p c (by
    have := congrArg (·[0]?) hcr
    simp only [List.getElem?_drop, Nat.add_zero, List.getElem?_cons_zero] at this
    exact this)
  have hx : ∀ n : Nat, s.extract p (p + n) = ba ((c :: r).take n) := fun n => ba_of (by rw [extract_any, hcr, show p + n - p = n by omega])
  simp only [trammelref1_token.j2]
  unfold sgnL
  by_cases ht : twoS (c :: r) = true
  · have h2 := two_len ht
    simp only [ht, two_sign ht, if_true]
    rw [if_pos (by omega), wrapS (by omega) (by omega), if_pos (by omega), if_pos (by omega), Int.toNat_natCast, show ((p : Int) + 2).toNat = p + 2 from by omega, hx 2]
    rfl
  · have ht' : twoS (c :: r) = false := by simpa using ht
    simp only [ht', Bool.false_eq_true, if_false]
    rw [if_pos (by omega), if_pos (by omega), hb, sign_is c k (by omega), Option.bind_some]
    by_cases hs2 : isSign c = true
    · simp only [hs2, if_true]
      rw [wrapS (by omega) (by omega), if_pos (by omega), if_pos (by omega), Int.toNat_natCast, show ((p : Int) + 1).toNat = p + 1 from by omega, hx 1]
      rfl
    · have hs3 : isSign c = false := by simpa using hs2
      simp only [hs3, Bool.false_eq_true, if_false]
      rfl
theorem tok_sgn {c : UInt8} (r : List UInt8) (h1 : isLet c = false) (h2 : isDig c = false) : tokL (c :: r) = sgnL (c :: r) := by
  unfold tokL
  by_cases hm : isMore c = true
  · have h95 : c = 95 := by
      unfold isMore at hm
      rw [h1, h2, Bool.false_or, Bool.false_or] at hm
      exact beq_iff_eq.1 hm
    rw [List.takeWhile_cons_of_pos hm, wordL_cons, if_pos h95]
  · rw [List.takeWhile_cons_of_neg hm]
    rfl
theorem tw_allp (q : UInt8 → Bool) : ∀ l : List UInt8, (l.takeWhile q).all q = true
  | [] => rfl
  | c :: l => by
    by_cases hc : q c = true
    · rw [List.takeWhile_cons_of_pos hc, List.all_cons, hc, tw_allp q l]
      rfl
    · rw [List.takeWhile_cons_of_neg hc]
      rfl
theorem j1_is (s : ByteArray) (hs : s.size ≤ 1000000000000) (p : Nat) (hp : p < s.size) (c : UInt8) (r : List UInt8) (hcr : s.data.toList.drop p = c :: r) (k : Nat) (hk : s.size + 200 ≤ k) :
    trammelref1_token.j1 k s (p : Int) ((p + ((c :: r).takeWhile isMore).length : Nat) : Int) = some (refT p (tokL (c :: r))) := by
  obtain ⟨k, rfl⟩ : ∃ m, k = m + 1 := ⟨k - 1, by omega⟩
  have hl := list_size s
  have hlen : (c :: r).length = s.size - p := by rw [← hcr, List.length_drop, hl]
  have hb : bt s (p : Int) = (c.toNat : Int) := bt_list s p c (by
    have := congrArg (·[0]?) hcr
    simp only [List.getElem?_drop, Nat.add_zero, List.getElem?_cons_zero] at this
    exact this)
  have hx : ∀ n : Nat, s.extract p (p + n) = ba ((c :: r).take n) := fun n => ba_of (by rw [extract_any, hcr, show p + n - p = n by omega])
  have hwl := tw_le isMore (c :: r)
  have htw : (c :: r).take ((c :: r).takeWhile isMore).length = (c :: r).takeWhile isMore := (List.prefix_iff_eq_take.1 (List.takeWhile_prefix isMore)).symm
  have hxw : s.extract p (p + ((c :: r).takeWhile isMore).length) = ba ((c :: r).takeWhile isMore) := by rw [hx, htw]
  simp only [trammelref1_token.j1]
  rw [if_pos (by omega), if_pos (by omega), if_pos (by omega), if_pos (by omega), hb, first_is, Option.bind_some]
  by_cases h1 : isLet c = true
  · obtain ⟨hm, h95, hd⟩ := let_more h1
    rw [if_pos h1]
    simp only [Int.toNat_natCast]
    rw [hxw]
    unfold tokL
    have hall : (r.takeWhile isMore).all isMore = true := tw_allp _ _
    rw [List.takeWhile_cons_of_pos hm] at hwl ⊢
    generalize r.takeWhile isMore = w at *
    have hz : (ba (c :: w)).size = w.length + 1 := ba_size _
    have hw2 : w.length + 1 ≤ s.size := by have h_ := hwl; rw [hlen] at h_; simp only [List.length_cons] at h_; omega
    have tk : wordL (c :: w) (c :: r) = if kw (c :: w) = true then (2, ba (c :: w), 0, 0, ((c :: w).length : Int), none) else if nm (c :: w) = true then (0, ba (c :: w), 0, 0, ((c :: w).length : Int), none) else noTok 201 := by
      rw [wordL_cons, if_neg h95, if_neg (by rw [hd]; decide)]
    rw [tk, refKw_is (ba (c :: w)) (by omega) k (by omega), Option.bind_some, ba_list]
    by_cases hk2 : kw (c :: w) = true
    · rw [if_pos hk2, if_pos hk2]
      simp [refT]
    · have hk3 : kw (c :: w) = false := by simpa using hk2
      rw [if_neg hk2, if_neg hk2, hz]
      have hnm : nm (c :: w) = decide (w.length < 16) := by simp [nm, h1, hall, hk3]
      rw [hnm]
      by_cases h16 : w.length < 16
      · rw [if_neg (by omega), if_pos (by simpa using h16)]
        simp [refT]
      · rw [if_pos (by omega), if_neg (by simpa using h16)]
        rfl
  · have h1' : isLet c = false := by simpa using h1
    rw [if_neg h1, digit_is, Option.bind_some]
    by_cases h2 : isDig c = true
    · obtain ⟨hm, h95⟩ := dig_more h2
      rw [if_pos h2]
      simp only [Int.toNat_natCast]
      rw [hxw]
      unfold tokL
      rw [List.takeWhile_cons_of_pos hm] at hwl ⊢
      generalize r.takeWhile isMore = w at *
      have hz : (ba (c :: w)).size = w.length + 1 := ba_size _
      have hw2 : w.length + 1 ≤ s.size := by have h_ := hwl; rw [hlen] at h_; simp only [List.length_cons] at h_; omega
      rw [wordL_cons, if_neg h95, if_pos h2]
      obtain ⟨x, hx1, hx2⟩ := refNum_is (ba (c :: w)) (by omega) (by omega) k (by omega)
      rw [hx1, Option.bind_some, ba_list]
      rw [ba_list] at hx2
      by_cases hn : numOk (c :: w) = true
      · rw [if_pos hn, if_pos hn, hx2 hn]
        simp [refT]
      · rw [if_neg hn, if_neg hn]
        rfl
    · have h2' : isDig c = false := by simpa using h2
      rw [if_neg h2, tok_sgn r h1' h2', wrapS (by omega) (by omega), wrapS (by omega) (by omega)]
      have J := j2_is s (by omega) p hp c r hcr k (by omega)
      by_cases hlt : (p : Int) + 1 < (s.size : Int)
      · rw [if_pos hlt, if_pos (by omega), if_pos (by omega), toList_data, Int.toNat_natCast, show ((p : Int) + 2).toNat = p + 2 from by omega, hx 2, ba_list]
        unfold twoS at J
        by_cases ha : (c :: r).take 2 = [45, 62]
        · rw [if_pos ha]
          have ha' : ((c :: r).take 2 == [45, 62]) = true := beq_iff_eq.2 ha
          rw [ha', Bool.true_or] at J
          exact J
        · rw [if_neg ha]
          have ha' : ((c :: r).take 2 == [45, 62]) = false := beq_eq_false_iff_ne.2 ha
          rw [ha', Bool.false_or] at J
          exact J
      · rw [if_neg hlt]
        have ht : twoS (c :: r) = false := by
          rw [Bool.eq_false_iff]
          intro h
          have := two_len h
          omega
        rw [ht] at J
        exact J
theorem tw_in (q : UInt8 → Bool) : ∀ (l : List UInt8) (i : Nat) (h : i < (l.takeWhile q).length), q (l[i]'(Nat.lt_of_lt_of_le h (tw_le q l))) = true
  | [], i, h => by simp at h
  | c :: l, i, h => by
    by_cases hc : q c = true
    · cases i with
      | zero => exact hc
      | succ i =>
        have h' : i < (l.takeWhile q).length := by
          rw [List.takeWhile_cons_of_pos hc] at h
          simpa using h
        exact tw_in q l i h'
    · rw [List.takeWhile_cons_of_neg hc] at h
      simp at h
theorem tw_out (q : UInt8 → Bool) : ∀ (l : List UInt8) (h : (l.takeWhile q).length < l.length), q l[(l.takeWhile q).length] = false
  | [], h => by simp at h
  | c :: l, h => by
    by_cases hc : q c = true
    · have e : ((c :: l).takeWhile q).length = (l.takeWhile q).length + 1 := by rw [List.takeWhile_cons_of_pos hc]; rfl
      have h' : (l.takeWhile q).length < l.length := by rw [e] at h; simpa using h
      have := tw_out q l h'
      simp only [e, List.getElem_cons_succ]
      exact this
    · have e : ((c :: l).takeWhile q).length = 0 := by rw [List.takeWhile_cons_of_neg hc]; rfl
      simp only [e, List.getElem_cons_zero]
      simpa using hc
theorem token_loop (s : ByteArray) (hs : s.size ≤ 1000000000000) (p : Nat) (hp : p < s.size) (c : UInt8) (r : List UInt8) (hcr : s.data.toList.drop p = c :: r) : ∀ (d i k : Nat), s.size - (p + i) = d → i ≤ ((c :: r).takeWhile isMore).length → d + s.size + 201 ≤ k →
    trammelref1_token.l0 k s (p : Int) ((p + i : Nat) : Int) = some (refT p (tokL (c :: r))) := by
  have hl := list_size s
  have hwl := tw_le isMore (c :: r)
  have hlen : (c :: r).length = s.size - p := by rw [← hcr, List.length_drop, hl]
  intro d
  induction d with
  | zero =>
    intro i k hd hi hk
    obtain ⟨k, rfl⟩ : ∃ m, k = m + 1 := ⟨k - 1, by omega⟩
    simp only [trammelref1_token.l0]
    rw [if_neg (by omega)]
    have : i = ((c :: r).takeWhile isMore).length := by omega
    rw [this]
    exact j1_is s hs p hp c r hcr k (by omega)
  | succ d ih =>
    intro i k hd hi hk
    obtain ⟨k, rfl⟩ : ∃ m, k = m + 1 := ⟨k - 1, by omega⟩
    have hlt : i < (c :: r).length := by omega
    have hg : s.data.toList[p + i]? = some (c :: r)[i] := by
      have := congrArg (·[i]?) hcr
      simp only [List.getElem?_drop] at this
      rw [this, List.getElem?_eq_getElem hlt]
    simp only [trammelref1_token.l0]
    rw [if_pos (by omega), if_pos (by omega), bt_list s (p + i) _ hg, later_is, Option.bind_some]
    by_cases hm : isMore (c :: r)[i] = true
    · have hi2 : i < ((c :: r).takeWhile isMore).length := by
        rcases Nat.lt_or_ge i ((c :: r).takeWhile isMore).length with h | h
        · exact h
        · have e : i = ((c :: r).takeWhile isMore).length := by omega
          have := tw_out isMore (c :: r) (by omega)
          simp only [← e] at this
          rw [hm] at this
          cases this
      rw [if_pos hm, wrapS (by omega) (by omega), show (((p + i : Nat) : Int) + 1) = ((p + (i + 1) : Nat) : Int) from by omega]
      exact ih (i + 1) k (by omega) (by omega) (by omega)
    · have hi2 : i = ((c :: r).takeWhile isMore).length := by
        rcases Nat.lt_or_ge i ((c :: r).takeWhile isMore).length with h | h
        · exact (hm (tw_in isMore (c :: r) i h)).elim
        · omega
      rw [if_neg hm, hi2]
      exact j1_is s hs p hp c r hcr k (by omega)
end Go.Proofs.YtnogfhhfklkbiaaDoor.H

namespace Go.Proofs.YtnogfhhfklkbiaaDoor.H
open Go.RowKit Go.Proofs.YtnogfhhfklkbiaaDoorW.PrintWords Go.Proofs.YtnogfhhfklkbiaaDoorW.PrintLast Go.Proofs.YtnogfhhfklkbiaaDoorW.PrintMore
attribute [local go_sem] max2_int min2_int max_two min_two max_three min_three max_four min_four   -- for this text's walks alone
set_option linter.unusedVariables false
set_option linter.unusedSimpArgs false

/-! ### trammellaw0_SpoilTokens: function 32 -/
def trammellaw0_SpoilTokens.l0 : Nat → List (S60) → Int → Option ((List (S60)))
  | 0, _, _ => none
  | k + 1, x0, x2 => if x2 < (x0.length : Int) then (if 0 ≤ x2 then (trammellaw0_SpoilTokens.l0 k (x0.set (x2 : Int).toNat (⟨(rd_T60 x0 x2).f0, (rd_T60 x0 x2).f1, (rd_T60 x0 x2).f2, Go.bits .xor .i64 ((rd_T60 x0 x2).f3) 90⟩ : S60)) (wrap64 (x2 + 1))) else (none)) else (some x0)
def trammellaw0_SpoilTokens.f (k : Nat) (l0 : List (S60)) : Option ((List (S60))) := trammellaw0_SpoilTokens.l0 k l0 0
theorem trammellaw0_SpoilTokens.mono_l : ∀ k, (∀ y0 y1, LeO (trammellaw0_SpoilTokens.l0 k y0 y1) (trammellaw0_SpoilTokens.l0 (k + 1) y0 y1))
  | 0 => fun _ _ r h => by simp [trammellaw0_SpoilTokens.l0] at h
  | k + 1 => by
    have ih0 := trammellaw0_SpoilTokens.mono_l k
    · intro y0 y1
      unfold trammellaw0_SpoilTokens.l0
      repeat' first
      | (with_reducible exact ih0 _ _)
      | (with_reducible exact LeO.refl _)
      | (with_reducible exact LeO.none _)
      | (with_reducible refine LeO.ite ?_ ?_)
      | (with_reducible refine LeO.bind ?_ (fun _ => ?_))
      | exact ih0 _ _
      | exact LeO.none _
      | refine LeO.ite ?_ ?_
      | refine LeO.bind ?_ (fun _ => ?_)
theorem trammellaw0_SpoilTokens.mono : ∀ a0 k, LeO (trammellaw0_SpoilTokens.f k a0) (trammellaw0_SpoilTokens.f (k + 1) a0) := by
  intro a0 k
  have ih0 := trammellaw0_SpoilTokens.mono_l k
  unfold trammellaw0_SpoilTokens.f
  repeat' first
      | (with_reducible exact ih0 _ _)
      | (with_reducible exact LeO.refl _)
      | (with_reducible exact LeO.none _)
      | (with_reducible refine LeO.ite ?_ ?_)
      | (with_reducible refine LeO.bind ?_ (fun _ => ?_))
      | exact ih0 _ _
      | exact LeO.none _
      | refine LeO.ite ?_ ?_
      | refine LeO.bind ?_ (fun _ => ?_)
set_option maxHeartbeats 8000000 in
set_option maxRecDepth 100000 in
theorem trammellaw0_SpoilTokens.calls (k : Nat) (P0_ : Nat → Prop) (u9000_ : Value) (l0 : List (S60)) (r : List (S60)) (w0 w : World) (hB : Below w0.heap.size w0 w) (ho0 : Kd.R k60 60 w w0.heap.size P0_ u9000_ l0) (h : trammellaw0_SpoilTokens.f k l0 = some r) :
    Calls Tryd.prog 32 #[u9000_] w fun e w' => e = .returned (.tuple #[]) ∧ Kd.R k60 60 w' w0.heap.size (fun k_ => (P0_ k_ ∨ w.heap.size ≤ k_)) u9000_ r ∧ Below w0.heap.size w0 w' ∧ Kept w w' (fun k_ => P0_ k_) := by
  have HO0 := Aside0.mk (show Kd.R k60 60 w w0.heap.size (fun k_ => (P0_ k_ ∨ w.heap.size ≤ k_)) u9000_ l0 from Kd.R_mono ho0 (fun k_ hk => (.inl hk)))
  have HK := Aside0.mk (Kept.refl w (fun k_ => P0_ k_))
  have HW0 := Aside0.mk hB.size
  have HB := Aside0.mk hB
  clear hB
  have H : (trammellaw0_SpoilTokens.l0 k l0 0) = some r := h
  clear h
  have H' := Aside0.mk H
  clear H
  go_enter Tryd.func32, Tryd.ntmps32
  go_wp2
  go_loopg [2] k (fun kq v2 w' => ∃ (x0_1 : List (S60)) (x2_1 : Int), v2 = .int .i64 x2_1 ∧ Aside0 (trammellaw0_SpoilTokens.l0 kq x0_1 x2_1 = some r) ∧ Aside0 (kq ≤ k) ∧ Aside0 (Kd.R k60 60 w' w0.heap.size (fun k_ => (P0_ k_ ∨ w.heap.size ≤ k_)) u9000_ x0_1) ∧ Aside0 (Kept w w' (fun k_ => P0_ k_)) ∧ Aside0 (Below w0.heap.size w0 w'))
  case atStart => exact ⟨(l0), (0), (by first | rfl | (simp; done) | (simp [*]; done)), H', ⟨Nat.le_refl _⟩, ⟨by (with_reducible repeat (first | apply Kd.R_alloc | apply Kd.R_drewN | apply Kd.R_drew)); exact HO0.out⟩, ⟨by repeat (first | (with_reducible first | exact HK.out | apply Kept.alloc | apply Kept.drewN | apply Kept.drew) | exact HK.out)⟩, ⟨by repeat (first | (with_reducible first | exact HB.out | apply below_alloc | apply pw_below_drewN | apply below_drew1) | exact HB.out)⟩⟩
  case round =>
    clear H'
    obtain ⟨x0_1, x2_1, rfl, HA, HK1, HO_0, HK, HB⟩ := hrel
    cases gk with
    | zero => exact absurd HA.out (by simp [trammellaw0_SpoilTokens.l0])
    | succ k1 =>
      have H := HA.out
      clear HA
      simp only [trammellaw0_SpoilTokens.l0] at H
      by_cases c2 : x2_1 < (x0_1.length : Int)
      · rw [if_pos c2] at H
        have c2b0 : decide (x2_1 < (x0_1.length : Int)) = true := decide_eq_true c2
        clear c2
        by_cases c3 : 0 ≤ x2_1
        · rw [if_pos c3] at H
          have c3b0 : decide (0 ≤ x2_1) = true := decide_eq_true c3
          clear c3
          obtain ⟨y248, hy248⟩ : ∃ y_ : List (S60), y_ = (x0_1.set (x2_1 : Int).toNat (⟨(rd_T60 x0_1 x2_1).f0, (rd_T60 x0_1 x2_1).f1, (rd_T60 x0_1 x2_1).f2, Go.bits .xor .i64 ((rd_T60 x0_1 x2_1).f3) 90⟩ : S60)) := ⟨_, rfl⟩
          replace H : (trammellaw0_SpoilTokens.l0 k1 y248 (wrap64 (x2_1 + 1))) = some r := by first | (rw [hy248]; with_reducible exact H) | (have H2_ := (Option.bind_some _ _).symm.trans H; rw [hy248]; with_reducible exact H2_) | (have H2_ := (Option.bind_some _ _).symm.trans H; with_reducible exact H2_) | with_reducible exact H | (rw [hy248]; exact H) | exact H
          have Ny248 := Aside0.mk hy248
          clear hy248
          have H' := Aside0.mk H
          clear H
          obtain ⟨Ao5, co5, eo5⟩ := Kd.R_slice HO_0.out
          subst eo5
          have p247 : 0 ≤ (x2_1 : Int) := of_decide_eq_true (by first | (with_reducible assumption) | assumption)
          have q247 : x2_1 < (x0_1.length : Int) := of_decide_eq_true (by first | (with_reducible assumption) | assumption)
          obtain ⟨ad247, e247, hx247_0, hx247_1, hx247_2, hx247_3⟩ := at_T60 (Kd.R_reads' HO_0.out).2.2 x2_1 p247 q247
          cases e247
          replace p247 := eq_true p247
          replace q247 := eq_true q247
          have p4 : 0 ≤ (x2_1 : Int) := of_decide_eq_true (by first | (with_reducible assumption) | assumption)
          have q4 : (x2_1 : Int) < ((x0_1.length : Int) : Int) := of_decide_eq_true (by first | (with_reducible assumption) | assumption)
          obtain ⟨go4, co4, eo4, gb4, gl4, cl4, HG4⟩ := Kd.R_form HO_0.out (by omega)
          (first | cases eo4 | (injection eo4 with ea_ en_ ec_; (first | subst ea_ | (injection ea_ with ea_; subst ea_)); subst ec_; clear en_))
          have GB4 := Aside0.mk gb4
          have GG4 := Aside0.mk HG4
          clear gb4 gl4 HG4
          have HMgo4 := Aside0.mk (show (P0_ go4 ∨ w.heap.size ≤ go4) from (HO_0.out.1 _ rfl))
          (first | simp only [add_plain] at hx247_0 | skip)
          (first | simp only [add_plain] at hx247_1 | skip)
          (first | simp only [add_plain] at hx247_2 | skip)
          (first | simp only [add_plain] at hx247_3 | skip)
          obtain ⟨ce4, hcl4, hM4, hcc4, hfr4⟩ := Kd.R_elem HO_0.out z60 (x2_1 : Int) p4 q4
          obtain rfl := k60_openM hM4
          have hx4_0 : wr.cell? ⟨go4, (x2_1 : Int).toNat * 4, none⟩ = some (.int .i64 ((rd_T60 x0_1 x2_1).f0)) := hcc4 0 _ rfl
          have hx4_1 : wr.cell? ⟨go4, (x2_1 : Int).toNat * 4 + 1, none⟩ = some (.string ((rd_T60 x0_1 x2_1).f1)) := hcc4 1 _ rfl
          have hx4_2 : wr.cell? ⟨go4, (x2_1 : Int).toNat * 4 + 2, none⟩ = some (.int .i64 ((rd_T60 x0_1 x2_1).f2)) := hcc4 2 _ rfl
          have hx4_3 : wr.cell? ⟨go4, (x2_1 : Int).toNat * 4 + 3, none⟩ = some (.int .i64 ((rd_T60 x0_1 x2_1).f3)) := hcc4 3 _ rfl
          have hf4_0 : wr.frozen? ⟨go4, (x2_1 : Int).toNat * 4, none⟩ = false := hfr4 0
          have hf4_1 : wr.frozen? ⟨go4, (x2_1 : Int).toNat * 4 + 1, none⟩ = false := hfr4 1
          have hf4_2 : wr.frozen? ⟨go4, (x2_1 : Int).toNat * 4 + 2, none⟩ = false := hfr4 2
          have hf4_3 : wr.frozen? ⟨go4, (x2_1 : Int).toNat * 4 + 3, none⟩ = false := hfr4 3
          clear hcl4 hcc4 hfr4 hM4
          replace p4 := eq_true p4
          replace q4 := eq_true q4
          have HX6 := Aside0.mk (show Kd.R k60 60 wr w0.heap.size (fun k_ => (P0_ k_ ∨ w.heap.size ≤ k_)) (.slice (some ⟨go4, 0, none⟩) x0_1.length co5) x0_1 from (by (with_reducible repeat (first | apply Kd.R_alloc | apply Kd.R_drewN | apply Kd.R_drew)); exact HO_0.out))
          obtain ⟨ce6, hcl6, hM6, hcc6, hfr6⟩ := Kd.R_elem HX6.out z60 (x2_1 : Int) (of_decide_eq_true (by first | (with_reducible assumption) | assumption)) (by have h_ : (x2_1 : Int) < ((x0_1.length : Int) : Int) := of_decide_eq_true (by first | (with_reducible assumption) | assumption); first | exact h_ | (have e_ := (Kd.R_reads' HO_0.out).1; omega) | simpa using h_)
          obtain rfl := k60_openM hM6
          have HP6 := Kd.R_seg HX6.out (x2_1 : Int) (of_decide_eq_true (by first | (with_reducible assumption) | assumption)) (by have h_ : (x2_1 : Int) < ((x0_1.length : Int) : Int) := of_decide_eq_true (by first | (with_reducible assumption) | assumption); first | exact h_ | (have e_ := (Kd.R_reads' HO_0.out).1; omega) | simpa using h_) (seg := [.int .i64 (Go.bits .xor .i64 ((rd_T60 x0_1 x2_1).f3) 90)]) (j := 3) hcl6 hcc6 (show 4 ≤ 4 from by decide) (x' := (⟨(rd_T60 x0_1 x2_1).f0, (rd_T60 x0_1 x2_1).f1, (rd_T60 x0_1 x2_1).f2, Go.bits .xor .i64 ((rd_T60 x0_1 x2_1).f3) 90⟩ : S60)) (k60_mkM _ _ _ (⟨(rd_T60 x0_1 x2_1).f0, (rd_T60 x0_1 x2_1).f1, (rd_T60 x0_1 x2_1).f2, Go.bits .xor .i64 ((rd_T60 x0_1 x2_1).f3) 90⟩ : S60) ) (fun _ hk => hk)
          have hx6_3 := hcc6 3 _ rfl
          (try simp only [show (k60).sz = 4 from rfl, Nat.mul_one, Nat.add_zero] at hx6_3)
          have hf6_3 := hfr6 3
          (try simp only [show (k60).sz = 4 from rfl, Nat.mul_one, Nat.add_zero] at hf6_3)
          clear hcl6 hcc6 hfr6 hM6
          go_wp2_with (first | ((with_reducible refine gate_store (t := 3) (p := 18) rfl ?_); refine store_event (t := 3) (p := 18) (v := ?vo_w7) (w1 := (wr.setCell ⟨go4, (x2_1 : Int).toNat * 4 + 3, none⟩ (.int .i64 (Go.bits .xor .i64 ((rd_T60 x0_1 x2_1).f3) 90)))) ?hg ?ho ?hn ?hr ?_; (case ho => rfl); (case hg => rfl); (case hn => rfl); (case hr => first | (go_simp; done) | (go_simp; rfl)); intro w7 hw; have hg : wr.grownBy w7 (some go4) := (by rw [hw]; exact HP6.2); have hp_ : Kd.R k60 60 w7 w0.heap.size (fun k_ => (P0_ k_ ∨ w.heap.size ≤ k_)) (.slice (some ⟨go4, 0, none⟩) x0_1.length co5) y248 := (by rw [hw, Ny248.out]; exact HP6.1); clear HP6; have n0_ := Aside0.mk (hp_); have n1_ := Aside0.mk ((by rw [hw]; exact below_set (HB.out) GB4.out : Below w0.heap.size w0 w7)); have n2_ := Aside0.mk (Kept.of_grown (S := (fun k_ => P0_ k_)) hg (by repeat (first | (with_reducible first | exact HK.out | apply Kept.alloc | apply Kept.drewN | apply Kept.drew) | exact HK.out)) (fun k_ e_ => (HO_0.out.1 k_ e_))); clear HO_0; clear HB; clear HK; have HO_0 := n0_; have HB := n1_; have HK := n2_; clear n0_ n1_ n2_; clear hg hw hp_))
          go_roundg k1
          case measure => have := HK1.out; omega
          case rel => exact ⟨(y248), (wrap64 (x2_1 + 1)), (by first | rfl | (simp; done) | (simp [*]; done)), H', ⟨by have := HK1.out; omega⟩, ⟨by (with_reducible repeat (first | apply Kd.R_alloc | apply Kd.R_drewN | apply Kd.R_drew)); exact HO_0.out⟩, ⟨by repeat (first | (with_reducible first | exact HK.out | apply Kept.alloc | apply Kept.drewN | apply Kept.drew) | exact HK.out)⟩, ⟨by repeat (first | (with_reducible first | exact HB.out | apply below_alloc | apply pw_below_drewN | apply below_drew1) | exact HB.out)⟩⟩
        · rw [if_neg c3] at H
          exact absurd H (by simp)
      · rw [if_neg c2] at H
        have c2b0 : decide (x2_1 < (x0_1.length : Int)) = false := decide_eq_false c2
        clear c2
        obtain rfl := Option.some.inj H
        obtain ⟨Ao8, co8, eo8⟩ := Kd.R_slice HO_0.out
        subst eo8
        go_wp2
        first | go_end0 | ((try simp only [Exit.inBlock, Exit.then]); refine bodyPost_ret (results_none rfl _ _ _) rfl ?_)
        exact ⟨by first | rfl | (simp [errW_none, errW_some] <;> rfl) | (simp [*, errW_none, errW_some] <;> rfl), by (with_reducible repeat (first | apply Kd.R_alloc | apply Kd.R_drewN | apply Kd.R_drew)); exact HO_0.out, by repeat (first | (with_reducible first | exact HB.out | apply below_alloc | apply pw_below_drewN | apply below_drew1) | exact HB.out), by repeat (first | (with_reducible first | exact HK.out | apply Kept.alloc | apply Kept.drewN | apply Kept.drew) | exact HK.out)⟩

end Go.Proofs.YtnogfhhfklkbiaaDoor.H
