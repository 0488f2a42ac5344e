/- Several texts in one: contracts of functions of the program, and what they lean on. In part written by a program of this session over the kit's print, in part by hand. -/
import Derived.Test.YtnogfhhfklkbiaaDoorZ0
import Derived.ChangeAlike
import Derived.RegionTactic
namespace Go.Proofs.YtnogfhhfklkbiaaDoor.H
open Go.RowKit Go.Proofs.YtnogfhhfklkbiaaDoorW.PrintWords Go.Proofs.YtnogfhhfklkbiaaDoorW.PrintLast Go.Proofs.YtnogfhhfklkbiaaDoorW.PrintMore
attribute [local go_sem] max2_int min2_int max_two min_two max_three min_three max_four min_four   -- for this text's walks alone
set_option linter.unusedVariables false
set_option linter.unusedSimpArgs false

/-! ### lex_Keyword: function 30 -/
def lex_Keyword.f (k : Nat) (a0 : ByteArray) : Option (Bool) := (strings_Split.f (⟨#[102, 117, 110, 32, 108, 101, 116, 32, 114, 101, 99, 32, 105, 110, 32, 105, 102, 32, 116, 104, 101, 110, 32, 101, 108, 115, 101, 32, 104, 97, 110, 100, 108, 101, 32, 119, 105, 116, 104, 32, 114, 101, 116, 117, 114, 110, 32, 101, 110, 100, 32, 100, 111, 32, 111, 112, 32, 116, 114, 117, 101, 32, 102, 97, 108, 115, 101, 32, 105, 110, 116, 32, 98, 111, 111, 108]⟩ : ByteArray) (⟨#[32]⟩ : ByteArray)).bind fun t122 => ((slices_Contains_string_string.f k t122 a0).bind fun t125 => (some t125))
theorem lex_Keyword.mono : ∀ a0 k, LeO (lex_Keyword.f k a0) (lex_Keyword.f (k + 1) a0) := by
  intro a0 k
  unfold lex_Keyword.f
  repeat' first
      | (with_reducible exact slices_Contains_string_string.mono _ _ _)
      | (with_reducible exact LeO.refl _)
      | (with_reducible exact LeO.none _)
      | (with_reducible refine LeO.ite ?_ ?_)
      | (with_reducible refine LeO.bind ?_ (fun _ => ?_))
      | exact slices_Contains_string_string.mono _ _ _
      | exact LeO.none _
      | refine LeO.ite ?_ ?_
      | refine LeO.bind ?_ (fun _ => ?_)
set_option maxHeartbeats 8000000 in
set_option maxRecDepth 100000 in
theorem lex_Keyword.calls (k : Nat) (a0 : ByteArray) (r : Bool) (w : World) (h : lex_Keyword.f k a0 = some r) :
    Calls Tryd.prog 30 #[.string a0] w fun e w' => e = .returned (.bool r) ∧ Below w.heap.size w w' := by
  have HB := Aside0.mk (Below.refl w.heap.size w)
  have H : ((strings_Split.f (⟨#[102, 117, 110, 32, 108, 101, 116, 32, 114, 101, 99, 32, 105, 110, 32, 105, 102, 32, 116, 104, 101, 110, 32, 101, 108, 115, 101, 32, 104, 97, 110, 100, 108, 101, 32, 119, 105, 116, 104, 32, 114, 101, 116, 117, 114, 110, 32, 101, 110, 100, 32, 100, 111, 32, 111, 112, 32, 116, 114, 117, 101, 32, 102, 97, 108, 115, 101, 32, 105, 110, 116, 32, 98, 111, 111, 108]⟩ : ByteArray) (⟨#[32]⟩ : ByteArray)).bind fun t122 => ((slices_Contains_string_string.f k t122 a0).bind fun t125 => (some t125))) = some r := h
  clear h
  replace H := Option.bind_eq_some_iff.mp H
  obtain ⟨t122, A20, H⟩ := H
  replace H : ((slices_Contains_string_string.f k t122 a0).bind fun t125 => (some t125)) = some r := H
  have A2 := Aside0.mk A20
  clear A20
  replace H := Option.bind_eq_some_iff.mp H
  obtain ⟨t125, A30, H⟩ := H
  replace H : (some t125) = some r := H
  have A3 := Aside0.mk A30
  clear A30
  obtain rfl := Option.some.inj H
  go_enter Tryd.func30, Tryd.ntmps30
  go_wp2_with (first | ((with_reducible refine gate_callee (f := 60) rfl ?_); refine goesL_ (some 3) rfl rfl Tryd.func60 (by kernel_rfl) rfl #[.string (⟨#[102, 117, 110, 32, 108, 101, 116, 32, 114, 101, 99, 32, 105, 110, 32, 105, 102, 32, 116, 104, 101, 110, 32, 101, 108, 115, 101, 32, 104, 97, 110, 100, 108, 101, 32, 119, 105, 116, 104, 32, 114, 101, 116, 117, 114, 110, 32, 101, 110, 100, 32, 100, 111, 32, 111, 112, 32, 116, 114, 117, 101, 32, 102, 97, 108, 115, 101, 32, 105, 110, 116, 32, 98, 111, 111, 108]⟩ : ByteArray), .string (⟨#[32]⟩ : ByteArray)] rfl (by (try simp only [List.map_toArray, List.map_cons, List.map_nil]); first | done | rfl | (simp only [List.length_drop, List.length_take]; rfl)) ?_; (with_reducible refine (strings_Split.calls (⟨#[102, 117, 110, 32, 108, 101, 116, 32, 114, 101, 99, 32, 105, 110, 32, 105, 102, 32, 116, 104, 101, 110, 32, 101, 108, 115, 101, 32, 104, 97, 110, 100, 108, 101, 32, 119, 105, 116, 104, 32, 114, 101, 116, 117, 114, 110, 32, 101, 110, 100, 32, 100, 111, 32, 111, 112, 32, 116, 114, 117, 101, 32, 102, 97, 108, 115, 101, 32, 105, 110, 116, 32, 98, 111, 111, 108]⟩ : ByteArray) (⟨#[32]⟩ : ByteArray) t122 _ A2.out).mono ?_); rintro e w4 ⟨v123, rfl, ho0, hb⟩; refine ⟨_, rfl, ?_⟩; have n0_ := Aside0.mk (Kd.R_lower ho0 (below_size (by repeat (first | (with_reducible first | exact HB.out | apply below_alloc | apply pw_below_drewN | apply below_drew1) | exact HB.out)))); have n1_ := Aside0.mk (below_step (by repeat (first | (with_reducible first | exact HB.out | apply below_alloc | apply pw_below_drewN | apply below_drew1) | exact HB.out)) hb); clear HB; have HO124 := n0_; have HB := n1_; clear n0_ n1_; (try clear hb); (try clear hb2); (try clear hk); (try clear hi); (try clear ho0); obtain ⟨Ao5, co5, eo5⟩ := Kd.R_slice HO124.out; subst eo5) | ((with_reducible refine gate_callee (f := 59) rfl ?_); refine goesL_ (some 5) rfl rfl Tryd.func59 (by kernel_rfl) rfl #[.slice Ao5 t122.length co5, .string a0] rfl (by (try simp only [List.map_toArray, List.map_cons, List.map_nil]); first | done | rfl | (simp only [List.length_drop, List.length_take]; rfl)) ?_; (with_reducible refine (slices_Contains_string_string.calls k _ _ t122 a0 t125 _ ?side1 ?side2 A3.out).mono ?_); (case side1 => repeat (first | exact (Kd.R_reads' HO124.out).2.2 | (with_reducible refine Kd.C_alloc ?_ _) | (with_reducible refine Kd.C_drewN ?_ _) | (with_reducible refine Kd.C_drew ?_))); (case side2 => exact (Kd.R_reads' HO124.out).2.1); rintro e w' ⟨rfl, ⟨nd, rfl⟩⟩; refine ⟨_, rfl, ?_⟩))
  go_ret
  exact ⟨by first | rfl | (simp [errW_none, errW_some] <;> rfl) | (simp [*, errW_none, errW_some] <;> rfl), by repeat (first | (with_reducible first | exact HB.out | apply below_alloc | apply pw_below_drewN | apply below_drew1) | exact HB.out)⟩

end Go.Proofs.YtnogfhhfklkbiaaDoor.H

namespace Go.Proofs.YtnogfhhfklkbiaaDoor.H
open Go.RowKit Go.Proofs.YtnogfhhfklkbiaaDoorW.PrintWords Go.Proofs.YtnogfhhfklkbiaaDoorW.PrintLast Go.Proofs.YtnogfhhfklkbiaaDoorW.PrintMore
attribute [local go_sem] max2_int min2_int max_two min_two max_three min_three max_four min_four   -- for this text's walks alone
set_option linter.unusedVariables false
set_option linter.unusedSimpArgs false

/-! ### strings_IndexByte: function 97 -/
-- import Derived.Test.YtnogfhhfklkbiaaDoorShelf
def strings_IndexByte.f (a0 : ByteArray) (a1 : Int) : Option (Int) := some (Lib.indexByte a0.data.toList a1.toNat.toUInt8)
theorem strings_IndexByte.calls (a0 : ByteArray) (a1 : Int) (r : Int) (w : World) (h : strings_IndexByte.f a0 a1 = some r) :
    Calls Tryd.prog 97 #[.string a0, .int .u8 a1] w fun e w' => e = .returned (.int .i64 r) ∧ Drawn0 w w' := by
  obtain rfl := Option.some.inj h
  exact (Tryd.strings_IndexByte a0 a1 w).mono fun e w' ⟨he, hw⟩ => ⟨he, hw ▸ Drawn0.refl _⟩


end Go.Proofs.YtnogfhhfklkbiaaDoor.H

namespace Go.Proofs.YtnogfhhfklkbiaaDoor.H
open Go.RowKit Go.Proofs.YtnogfhhfklkbiaaDoorW.PrintWords Go.Proofs.YtnogfhhfklkbiaaDoorW.PrintLast Go.Proofs.YtnogfhhfklkbiaaDoorW.PrintMore
attribute [local go_sem] max2_int min2_int max_two min_two max_three min_three max_four min_four   -- for this text's walks alone
set_option linter.unusedVariables false
set_option linter.unusedSimpArgs false

/-! ### lex_of: function 78 -/
def lex_of.f (a0 : Int) (a1 : ByteArray) : Option (Bool) := (strings_IndexByte.f a1 a0).bind fun t126 => (some (decide (t126 ≥ 0)))
set_option maxHeartbeats 8000000 in
set_option maxRecDepth 100000 in
theorem lex_of.calls (a0 : Int) (a1 : ByteArray) (r : Bool) (w : World) (h : lex_of.f a0 a1 = some r) :
    Calls Tryd.prog 78 #[.int .u8 a0, .string a1] w fun e w' => e = .returned (.bool r) ∧ Drawn0 w w' := by
  have H : ((strings_IndexByte.f a1 a0).bind fun t126 => (some (decide (t126 ≥ 0)))) = some r := h
  clear h
  replace H := Option.bind_eq_some_iff.mp H
  obtain ⟨t126, A30, H⟩ := H
  replace H : (some (decide (t126 ≥ 0))) = some r := H
  have A3 := Aside0.mk A30
  clear A30
  obtain rfl := Option.some.inj H
  go_enter Tryd.func78, Tryd.ntmps78
  go_wp2_with (first | ((with_reducible refine gate_callee (f := 97) rfl ?_); refine goesL_ (some 7) rfl rfl Tryd.func97 (by kernel_rfl) rfl #[.string a1, .int .u8 a0] rfl (by (try simp only [List.map_toArray, List.map_cons, List.map_nil]); first | done | rfl | (simp only [List.length_drop, List.length_take]; rfl)) ?_; (with_reducible refine (strings_IndexByte.calls a1 a0 t126 _ A3.out).mono ?_); rintro e w' ⟨rfl, ⟨nd, rfl⟩⟩; refine ⟨_, rfl, ?_⟩))
  go_ret
  exact ⟨by first | rfl | (simp; done) | (simp [*]; done), by repeat (first | exact Drawn0.refl _ | apply Drawn0.step)⟩

end Go.Proofs.YtnogfhhfklkbiaaDoor.H

namespace Go.Proofs.YtnogfhhfklkbiaaDoor.H
open Go.RowKit Go.Proofs.YtnogfhhfklkbiaaDoorW.PrintWords Go.Proofs.YtnogfhhfklkbiaaDoorW.PrintLast Go.Proofs.YtnogfhhfklkbiaaDoorW.PrintMore
attribute [local go_sem] max2_int min2_int max_two min_two max_three min_three max_four min_four   -- for this text's walks alone
set_option linter.unusedVariables false
set_option linter.unusedSimpArgs false

/-! ### lex_run: function 90 -/
def lex_run.l0 : Nat → ByteArray → ByteArray → Int → Option (ByteArray)
  | 0, _, _, _ => none
  | k + 1, x0, x1, x5 => if x5 < (x0.size : Int) then (if 0 ≤ x5 then ((lex_of.f (bt x0 x5) x1).bind fun t127 => (if t127 = true then (lex_run.l0 k x0 x1 (wrap64 (x5 + 1))) else (if x5 ≤ (x0.size : Int) then (some (x0.extract 0 (x5 : Int).toNat)) else (none)))) else (none)) else (if 0 ≤ x5 then (if x5 ≤ (x0.size : Int) then (some (x0.extract 0 (x5 : Int).toNat)) else (none)) else (none))
def lex_run.f (k : Nat) (a0 : ByteArray) (a1 : ByteArray) : Option (ByteArray) := lex_run.l0 k a0 a1 0
theorem lex_run.mono_l : ∀ k, (∀ y0 y1 y2, LeO (lex_run.l0 k y0 y1 y2) (lex_run.l0 (k + 1) y0 y1 y2))
  | 0 => fun _ _ _ r h => by simp [lex_run.l0] at h
  | k + 1 => by
    have ih0 := lex_run.mono_l k
    · intro y0 y1 y2
      unfold lex_run.l0
      repeat' first
      | (with_reducible exact ih0 _ _ _)
      | (with_reducible exact LeO.refl _)
      | (with_reducible exact LeO.none _)
      | (with_reducible refine LeO.ite ?_ ?_)
      | (with_reducible refine LeO.bind ?_ (fun _ => ?_))
      | exact ih0 _ _ _
      | exact LeO.none _
      | refine LeO.ite ?_ ?_
      | refine LeO.bind ?_ (fun _ => ?_)
theorem lex_run.mono : ∀ a0 a1 k, LeO (lex_run.f k a0 a1) (lex_run.f (k + 1) a0 a1) := by
  intro a0 a1 k
  have ih0 := lex_run.mono_l k
  unfold lex_run.f
  repeat' first
      | (with_reducible exact ih0 _ _ _)
      | (with_reducible exact LeO.refl _)
      | (with_reducible exact LeO.none _)
      | (with_reducible refine LeO.ite ?_ ?_)
      | (with_reducible refine LeO.bind ?_ (fun _ => ?_))
      | exact ih0 _ _ _
      | exact LeO.none _
      | refine LeO.ite ?_ ?_
      | refine LeO.bind ?_ (fun _ => ?_)
set_option maxHeartbeats 8000000 in
set_option maxRecDepth 100000 in
theorem lex_run.calls (k : Nat) (a0 : ByteArray) (a1 : ByteArray) (r : ByteArray) (w : World) (h : lex_run.f k a0 a1 = some r) :
    Calls Tryd.prog 90 #[.string a0, .string a1] w fun e w' => e = .returned (.string r) ∧ Drawn0 w w' := by
  have H : (lex_run.l0 k a0 a1 0) = some r := h
  clear h
  have H' := Aside0.mk H
  clear H
  go_enter Tryd.func90, Tryd.ntmps90
  go_wp2
  go_loopg [5] k (fun kq v5 w' => ∃ (x5_1 : Int), v5 = .int .i64 x5_1 ∧ Aside0 (lex_run.l0 kq a0 a1 x5_1 = some r) ∧ Aside0 (kq ≤ k) ∧ Drawn0 w w')
  case atStart => exact ⟨(0), (by first | rfl | (simp; done) | (simp [*]; done)), H', ⟨Nat.le_refl _⟩, by repeat (first | exact Drawn0.refl _ | apply Drawn0.step)⟩
  case round =>
    clear H'
    try clear p2
    obtain ⟨x5_1, rfl, HA, HK1, ⟨m1, rfl⟩⟩ := hrel
    cases gk with
    | zero => exact absurd HA.out (by simp [lex_run.l0])
    | succ k1 =>
      have H := HA.out
      clear HA
      simp only [lex_run.l0] at H
      by_cases c3 : x5_1 < (a0.size : Int)
      · rw [if_pos c3] at H
        have c3b0 : decide (x5_1 < (a0.size : Int)) = true := decide_eq_true c3
        clear c3
        by_cases c4 : 0 ≤ x5_1
        · rw [if_pos c4] at H
          have c4b0 : decide (0 ≤ x5_1) = true := decide_eq_true c4
          clear c4
          replace H := Option.bind_eq_some_iff.mp H
          obtain ⟨t127, A60, H⟩ := H
          replace H : (if t127 = true then (lex_run.l0 k1 a0 a1 (wrap64 (x5_1 + 1))) else (if x5_1 ≤ (a0.size : Int) then (some (a0.extract 0 (x5_1 : Int).toNat)) else (none))) = some r := H
          have A6 := Aside0.mk A60
          clear A60
          by_cases c7 : t127 = true
          · subst c7
            have H1 : (lex_run.l0 k1 a0 a1 (wrap64 (x5_1 + 1))) = some r := by rw [if_pos rfl] at H; exact H
            clear H
            have H := H1
            clear H1
            have H' := Aside0.mk H
            clear H
            have p5 : 0 ≤ (x5_1 : Int) := of_decide_eq_true (by first | (with_reducible assumption) | assumption)
            have q5 : x5_1 < (a0.size : Int) := of_decide_eq_true (by first | (with_reducible assumption) | assumption)
            have hx5 := bt_at a0 x5_1
            replace p5 := eq_true p5
            replace q5 := eq_true q5
            go_wp2_with (first | (go_at_call 78; (with_reducible refine (lex_of.calls (bt a0 x5_1) a1 true _ A6.out).mono ?_); rintro e w' ⟨rfl, ⟨nd, rfl⟩⟩))
            go_roundg k1
            case measure => have := HK1.out; omega
            case rel => exact ⟨(wrap64 (x5_1 + 1)), (by first | rfl | (simp; done) | (simp [*]; done)), H', ⟨by have := HK1.out; omega⟩, by repeat (first | exact Drawn0.refl _ | apply Drawn0.step)⟩
          · replace c7 := Bool.eq_false_iff.mpr c7
            subst c7
            have H1 : (if x5_1 ≤ (a0.size : Int) then (some (a0.extract 0 (x5_1 : Int).toNat)) else (none)) = some r := by rw [if_neg (show ¬ (false = true) by decide)] at H; exact H
            clear H
            have H := H1
            clear H1
            have c8b0 := eq_true (of_decide_eq_true (by first | (with_reducible assumption) | assumption) : 0 ≤ x5_1)
            by_cases c9 : x5_1 ≤ (a0.size : Int)
            · rw [if_pos c9] at H
              have c9b0 := eq_true c9
              have c9b1 : decide (x5_1 ≤ (a0.size : Int)) = true := decide_eq_true c9
              clear c9
              obtain rfl := Option.some.inj H
              have p5 : 0 ≤ (x5_1 : Int) := of_decide_eq_true (by first | (with_reducible assumption) | assumption)
              have q5 : x5_1 < (a0.size : Int) := of_decide_eq_true (by first | (with_reducible assumption) | assumption)
              have hx5 := bt_at a0 x5_1
              replace p5 := eq_true p5
              replace q5 := eq_true q5
              go_wp2_with (first | (go_at_call 78; (with_reducible refine (lex_of.calls (bt a0 x5_1) a1 false _ A6.out).mono ?_); rintro e w' ⟨rfl, ⟨nd, rfl⟩⟩))
              go_ret
              exact ⟨by first | rfl | (simp; done) | (simp [*]; done), by repeat (first | exact Drawn0.refl _ | apply Drawn0.step)⟩
            · rw [if_neg c9] at H
              exact absurd H (by simp)
        · rw [if_neg c4] at H
          exact absurd H (by simp)
      · rw [if_neg c3] at H
        have c3b0 : decide (x5_1 < (a0.size : Int)) = false := decide_eq_false c3
        clear c3
        by_cases c10 : 0 ≤ x5_1
        · rw [if_pos c10] at H
          have c10b0 := eq_true c10
          have c10b1 : decide (0 ≤ x5_1) = true := decide_eq_true c10
          clear c10
          by_cases c11 : x5_1 ≤ (a0.size : Int)
          · rw [if_pos c11] at H
            have c11b0 := eq_true c11
            have c11b1 : decide (x5_1 ≤ (a0.size : Int)) = true := decide_eq_true c11
            clear c11
            obtain rfl := Option.some.inj H
            go_wp2
            go_ret
            exact ⟨by first | rfl | (simp; done) | (simp [*]; done), by repeat (first | exact Drawn0.refl _ | apply Drawn0.step)⟩
          · rw [if_neg c11] at H
            exact absurd H (by simp)
        · rw [if_neg c10] at H
          exact absurd H (by simp)

end Go.Proofs.YtnogfhhfklkbiaaDoor.H

namespace Go.Proofs.YtnogfhhfklkbiaaDoor.H
open Go.RowKit Go.Proofs.YtnogfhhfklkbiaaDoorW.PrintWords Go.Proofs.YtnogfhhfklkbiaaDoorW.PrintLast Go.Proofs.YtnogfhhfklkbiaaDoorW.PrintMore
attribute [local go_sem] max2_int min2_int max_two min_two max_three min_three max_four min_four   -- for this text's walks alone
set_option linter.unusedVariables false
set_option linter.unusedSimpArgs false

/-! ### lex_NameMay: function 68 -/
def lex_NameMay.f (k : Nat) (a0 : ByteArray) : Option (Bool) := if a0.toList = ([] : List UInt8) then (some false) else (if (a0.size : Int) ≤ 16 then (if 0 < (a0.size : Int) then ((lex_of.f (bt a0 0) (⟨#[97, 98, 99, 100, 101, 102, 103, 104, 105, 106, 107, 108, 109, 110, 111, 112, 113, 114, 115, 116, 117, 118, 119, 120, 121, 122]⟩ : ByteArray)).bind fun t128 => (if t128 = true then ((lex_run.f k a0 (⟨#[97, 98, 99, 100, 101, 102, 103, 104, 105, 106, 107, 108, 109, 110, 111, 112, 113, 114, 115, 116, 117, 118, 119, 120, 121, 122, 48, 49, 50, 51, 52, 53, 54, 55, 56, 57, 95]⟩ : ByteArray)).bind fun t129 => (if t129.toList = a0.toList then ((lex_Keyword.f k a0).bind fun t130 => (some (!t130))) else (some false))) else (some false))) else (none)) else (some false))
theorem lex_NameMay.mono : ∀ a0 k, LeO (lex_NameMay.f k a0) (lex_NameMay.f (k + 1) a0) := by
  intro a0 k
  unfold lex_NameMay.f
  repeat' first
      | (with_reducible exact lex_Keyword.mono _ _)
      | (with_reducible exact lex_run.mono _ _ _)
      | (with_reducible exact LeO.refl _)
      | (with_reducible exact LeO.none _)
      | (with_reducible refine LeO.ite ?_ ?_)
      | (with_reducible refine LeO.bind ?_ (fun _ => ?_))
      | exact lex_Keyword.mono _ _
      | exact lex_run.mono _ _ _
      | exact LeO.none _
      | refine LeO.ite ?_ ?_
      | refine LeO.bind ?_ (fun _ => ?_)
set_option maxHeartbeats 8000000 in
set_option maxRecDepth 100000 in
theorem lex_NameMay.calls (k : Nat) (a0 : ByteArray) (r : Bool) (w : World) (h : lex_NameMay.f k a0 = some r) :
    Calls Tryd.prog 68 #[.string a0] w fun e w' => e = .returned (.bool r) ∧ Below w.heap.size w w' := by
  have HB := Aside0.mk (Below.refl w.heap.size w)
  have H : (if a0.toList = ([] : List UInt8) then (some false) else (if (a0.size : Int) ≤ 16 then (if 0 < (a0.size : Int) then ((lex_of.f (bt a0 0) (⟨#[97, 98, 99, 100, 101, 102, 103, 104, 105, 106, 107, 108, 109, 110, 111, 112, 113, 114, 115, 116, 117, 118, 119, 120, 121, 122]⟩ : ByteArray)).bind fun t128 => (if t128 = true then ((lex_run.f k a0 (⟨#[97, 98, 99, 100, 101, 102, 103, 104, 105, 106, 107, 108, 109, 110, 111, 112, 113, 114, 115, 116, 117, 118, 119, 120, 121, 122, 48, 49, 50, 51, 52, 53, 54, 55, 56, 57, 95]⟩ : ByteArray)).bind fun t129 => (if t129.toList = a0.toList then ((lex_Keyword.f k a0).bind fun t130 => (some (!t130))) else (some false))) else (some false))) else (none)) else (some false))) = some r := h
  clear h
  by_cases c2 : a0.toList = ([] : List UInt8)
  · rw [if_pos c2] at H
    have c2b0 : (a0.toList == ([] : List UInt8)) = true := beq_iff_eq.mpr c2
    have c2b1 : (a0.toList != ([] : List UInt8)) = false := bne_eq_false_iff_eq.mpr c2
    clear c2
    obtain rfl := Option.some.inj H
    go_enter Tryd.func68, Tryd.ntmps68
    go_wp2
    go_ret
    exact ⟨by first | rfl | (simp [errW_none, errW_some] <;> rfl) | (simp [*, errW_none, errW_some] <;> rfl), by repeat (first | (with_reducible first | exact HB.out | apply below_alloc | apply pw_below_drewN | apply below_drew1) | exact HB.out)⟩
  · rw [if_neg c2] at H
    have c2b0 : (a0.toList == ([] : List UInt8)) = false := beq_eq_false_iff_ne.mpr c2
    have c2b1 : (a0.toList != ([] : List UInt8)) = true := bne_iff_ne.mpr c2
    by_cases c3 : (a0.size : Int) ≤ 16
    · rw [if_pos c3] at H
      have c3b0 : decide ((a0.size : Int) ≤ 16) = true := decide_eq_true c3
      have c3b1 : decide (a0.size ≤ 16) = true := decide_eq_true (by omega)
      clear c3
      by_cases c4 : 0 < (a0.size : Int)
      · rw [if_pos c4] at H
        have c4b0 : decide (0 < (a0.size : Int)) = true := decide_eq_true c4
        have c4b1 : decide (0 < a0.size) = true := decide_eq_true (by omega)
        clear c4
        replace H := Option.bind_eq_some_iff.mp H
        obtain ⟨t128, A60, H⟩ := H
        replace H : (if t128 = true then ((lex_run.f k a0 (⟨#[97, 98, 99, 100, 101, 102, 103, 104, 105, 106, 107, 108, 109, 110, 111, 112, 113, 114, 115, 116, 117, 118, 119, 120, 121, 122, 48, 49, 50, 51, 52, 53, 54, 55, 56, 57, 95]⟩ : ByteArray)).bind fun t129 => (if t129.toList = a0.toList then ((lex_Keyword.f k a0).bind fun t130 => (some (!t130))) else (some false))) else (some false)) = some r := H
        have A6 := Aside0.mk A60
        clear A60
        by_cases c7 : t128 = true
        · subst c7
          have H1 : ((lex_run.f k a0 (⟨#[97, 98, 99, 100, 101, 102, 103, 104, 105, 106, 107, 108, 109, 110, 111, 112, 113, 114, 115, 116, 117, 118, 119, 120, 121, 122, 48, 49, 50, 51, 52, 53, 54, 55, 56, 57, 95]⟩ : ByteArray)).bind fun t129 => (if t129.toList = a0.toList then ((lex_Keyword.f k a0).bind fun t130 => (some (!t130))) else (some false))) = some r := by rw [if_pos rfl] at H; exact H
          clear H
          have H := H1
          clear H1
          replace H := Option.bind_eq_some_iff.mp H
          obtain ⟨t129, A80, H⟩ := H
          replace H : (if t129.toList = a0.toList then ((lex_Keyword.f k a0).bind fun t130 => (some (!t130))) else (some false)) = some r := H
          have A8 := Aside0.mk A80
          clear A80
          by_cases c9 : t129.toList = a0.toList
          · rw [if_pos c9] at H
            have c9b0 : (t129.toList == a0.toList) = true := beq_iff_eq.mpr c9
            have c9b1 : (t129.toList != a0.toList) = false := bne_eq_false_iff_eq.mpr c9
            clear c9
            replace H := Option.bind_eq_some_iff.mp H
            obtain ⟨t130, A100, H⟩ := H
            replace H : (some (!t130)) = some r := H
            have A10 := Aside0.mk A100
            clear A100
            obtain rfl := Option.some.inj H
            have p5 : 0 ≤ (0 : Int) := (by omega)
            have q5 : 0 < a0.size := (by have : (0 : Int) < (a0.size : Int) := of_decide_eq_true (by first | (with_reducible assumption) | assumption); omega)
            have hx5 : ∀ h : 0 < a0.size, ((a0[0]'h).toNat : Int) = bt a0 0 := bt_at a0 0
            clear p5
            have qi5 : (0 < (a0.size : Int)) = True := eq_true (of_decide_eq_true (by first | (with_reducible assumption) | assumption))
            replace q5 := eq_true q5
            go_enter Tryd.func68, Tryd.ntmps68
            go_wp2_with (first | (go_at_call 78; (with_reducible refine (lex_of.calls (bt a0 0) (⟨#[97, 98, 99, 100, 101, 102, 103, 104, 105, 106, 107, 108, 109, 110, 111, 112, 113, 114, 115, 116, 117, 118, 119, 120, 121, 122]⟩ : ByteArray) true _ A6.out).mono ?_); rintro e w' ⟨rfl, ⟨nd, rfl⟩⟩) | (go_at_call 90; (with_reducible refine (lex_run.calls k a0 (⟨#[97, 98, 99, 100, 101, 102, 103, 104, 105, 106, 107, 108, 109, 110, 111, 112, 113, 114, 115, 116, 117, 118, 119, 120, 121, 122, 48, 49, 50, 51, 52, 53, 54, 55, 56, 57, 95]⟩ : ByteArray) t129 _ A8.out).mono ?_); rintro e w' ⟨rfl, ⟨nd, rfl⟩⟩) | (go_at_call 30; (with_reducible refine (lex_Keyword.calls k a0 t130 _ A10.out).mono ?_); rintro e w11 ⟨rfl, hb⟩; have n0_ := Aside0.mk (below_step (by repeat (first | (with_reducible first | exact HB.out | apply below_alloc | apply pw_below_drewN | apply below_drew1) | exact HB.out)) hb); clear HB; have HB := n0_; clear n0_; (try clear hb); (try clear hb2); (try clear hk); (try clear hi)))
            go_ret
            exact ⟨by first | rfl | (simp [errW_none, errW_some] <;> rfl) | (simp [*, errW_none, errW_some] <;> rfl), by repeat (first | (with_reducible first | exact HB.out | apply below_alloc | apply pw_below_drewN | apply below_drew1) | exact HB.out)⟩
          · rw [if_neg c9] at H
            have c9b0 : (t129.toList == a0.toList) = false := beq_eq_false_iff_ne.mpr c9
            have c9b1 : (t129.toList != a0.toList) = true := bne_iff_ne.mpr c9
            obtain rfl := Option.some.inj H
            have p5 : 0 ≤ (0 : Int) := (by omega)
            have q5 : 0 < a0.size := (by have : (0 : Int) < (a0.size : Int) := of_decide_eq_true (by first | (with_reducible assumption) | assumption); omega)
            have hx5 : ∀ h : 0 < a0.size, ((a0[0]'h).toNat : Int) = bt a0 0 := bt_at a0 0
            clear p5
            have qi5 : (0 < (a0.size : Int)) = True := eq_true (of_decide_eq_true (by first | (with_reducible assumption) | assumption))
            replace q5 := eq_true q5
            go_enter Tryd.func68, Tryd.ntmps68
            go_wp2_with (first | (go_at_call 78; (with_reducible refine (lex_of.calls (bt a0 0) (⟨#[97, 98, 99, 100, 101, 102, 103, 104, 105, 106, 107, 108, 109, 110, 111, 112, 113, 114, 115, 116, 117, 118, 119, 120, 121, 122]⟩ : ByteArray) true _ A6.out).mono ?_); rintro e w' ⟨rfl, ⟨nd, rfl⟩⟩) | (go_at_call 90; (with_reducible refine (lex_run.calls k a0 (⟨#[97, 98, 99, 100, 101, 102, 103, 104, 105, 106, 107, 108, 109, 110, 111, 112, 113, 114, 115, 116, 117, 118, 119, 120, 121, 122, 48, 49, 50, 51, 52, 53, 54, 55, 56, 57, 95]⟩ : ByteArray) t129 _ A8.out).mono ?_); rintro e w' ⟨rfl, ⟨nd, rfl⟩⟩))
            go_ret
            exact ⟨by first | rfl | (simp [errW_none, errW_some] <;> rfl) | (simp [*, errW_none, errW_some] <;> rfl), by repeat (first | (with_reducible first | exact HB.out | apply below_alloc | apply pw_below_drewN | apply below_drew1) | exact HB.out)⟩
        · replace c7 := Bool.eq_false_iff.mpr c7
          subst c7
          have H1 : (some false) = some r := by rw [if_neg (show ¬ (false = true) by decide)] at H; exact H
          clear H
          have H := H1
          clear H1
          obtain rfl := Option.some.inj H
          have p5 : 0 ≤ (0 : Int) := (by omega)
          have q5 : 0 < a0.size := (by have : (0 : Int) < (a0.size : Int) := of_decide_eq_true (by first | (with_reducible assumption) | assumption); omega)
          have hx5 : ∀ h : 0 < a0.size, ((a0[0]'h).toNat : Int) = bt a0 0 := bt_at a0 0
          clear p5
          have qi5 : (0 < (a0.size : Int)) = True := eq_true (of_decide_eq_true (by first | (with_reducible assumption) | assumption))
          replace q5 := eq_true q5
          go_enter Tryd.func68, Tryd.ntmps68
          go_wp2_with (first | (go_at_call 78; (with_reducible refine (lex_of.calls (bt a0 0) (⟨#[97, 98, 99, 100, 101, 102, 103, 104, 105, 106, 107, 108, 109, 110, 111, 112, 113, 114, 115, 116, 117, 118, 119, 120, 121, 122]⟩ : ByteArray) false _ A6.out).mono ?_); rintro e w' ⟨rfl, ⟨nd, rfl⟩⟩))
          go_ret
          exact ⟨by first | rfl | (simp [errW_none, errW_some] <;> rfl) | (simp [*, errW_none, errW_some] <;> rfl), by repeat (first | (with_reducible first | exact HB.out | apply below_alloc | apply pw_below_drewN | apply below_drew1) | exact HB.out)⟩
      · rw [if_neg c4] at H
        exact absurd H (by simp)
    · rw [if_neg c3] at H
      have c3b0 : decide ((a0.size : Int) ≤ 16) = false := decide_eq_false c3
      have c3b1 : decide (a0.size ≤ 16) = false := decide_eq_false (by omega)
      clear c3
      obtain rfl := Option.some.inj H
      go_enter Tryd.func68, Tryd.ntmps68
      go_wp2
      go_ret
      exact ⟨by first | rfl | (simp [errW_none, errW_some] <;> rfl) | (simp [*, errW_none, errW_some] <;> rfl), by repeat (first | (with_reducible first | exact HB.out | apply below_alloc | apply pw_below_drewN | apply below_drew1) | exact HB.out)⟩

end Go.Proofs.YtnogfhhfklkbiaaDoor.H

set_option linter.unusedVariables false
set_option linter.unusedSimpArgs false
namespace Go.Proofs.YtnogfhhfklkbiaaDoor.H
open Go.RowKit Go.Proofs.YtnogfhhfklkbiaaDoorW.PrintWords Go.Proofs.YtnogfhhfklkbiaaDoorW.PrintLast Go.Proofs.YtnogfhhfklkbiaaDoorW.PrintMore

def isLet (b : UInt8) : Bool := decide (97 ≤ b.toNat) && decide (b.toNat ≤ 122)
def isDig (b : UInt8) : Bool := decide (48 ≤ b.toNat) && decide (b.toNat ≤ 57)
def isMore (b : UInt8) : Bool := isLet b || (isDig b || b == 95)
def lettersB : ByteArray := ⟨#[97, 98, 99, 100, 101, 102, 103, 104, 105, 106, 107, 108, 109, 110, 111, 112, 113, 114, 115, 116, 117, 118, 119, 120, 121, 122]⟩
def moreB : ByteArray := ⟨#[97, 98, 99, 100, 101, 102, 103, 104, 105, 106, 107, 108, 109, 110, 111, 112, 113, 114, 115, 116, 117, 118, 119, 120, 121, 122, 48, 49, 50, 51, 52, 53, 54, 55, 56, 57, 95]⟩
def digitsB : ByteArray := ⟨#[48, 49, 50, 51, 52, 53, 54, 55, 56, 57]⟩
def kwL : List (List UInt8) := [[102, 117, 110], [108, 101, 116], [114, 101, 99], [105, 110], [105, 102], [116, 104, 101, 110], [101, 108, 115, 101], [104, 97, 110, 100, 108, 101], [119, 105, 116, 104], [114, 101, 116, 117, 114, 110], [101, 110, 100], [100, 111], [111, 112], [116, 114, 117, 101], [102, 97, 108, 115, 101], [105, 110, 116], [98, 111, 111, 108]]
/-- A keyword. -/
def kw (l : List UInt8) : Bool := kwL.contains l
/-- What may be a name. -/
def nm (l : List UInt8) : Bool := match l with
  | [] => false
  | c :: r => decide (r.length < 16) && (isLet c && (r.all isMore && !kw (c :: r)))

theorem byte_all {P : UInt8 → Prop} (h : ∀ n : Fin 256, P (UInt8.ofNat n)) (c : UInt8) : P c := by
  have := h ⟨c.toNat, c.toNat_lt⟩
  simpa using this
theorem mem_letters (c : UInt8) : decide (c ∈ lettersB.data.toList) = isLet c := byte_all (P := fun c => decide (c ∈ lettersB.data.toList) = isLet c) (by decide +kernel) c
theorem mem_more (c : UInt8) : decide (c ∈ moreB.data.toList) = isMore c := byte_all (P := fun c => decide (c ∈ moreB.data.toList) = isMore c) (by decide +kernel) c
theorem mem_digits (c : UInt8) : decide (c ∈ digitsB.data.toList) = isDig c := byte_all (P := fun c => decide (c ∈ digitsB.data.toList) = isDig c) (by decide +kernel) c

theorem indexByte_mem (l : List UInt8) (c : UInt8) : 0 ≤ Lib.indexByte l c ↔ c ∈ l := by
  induction l with
  | nil => simp [Lib.indexByte]
  | cons b l ih =>
    have hge := Lib.indexByte_ge l c
    unfold Lib.indexByte
    by_cases h : b = c
    · subst h
      simp
    · have hb : (b == c) = false := by simpa using h
      simp only [hb, Bool.false_eq_true, if_false, List.mem_cons]
      by_cases h1 : Lib.indexByte l c = -1
      · have hn : c ∉ l := fun hm => by have := ih.2 hm; omega
        simp [h1, hn, Ne.symm h]
      · have hm : c ∈ l := ih.1 (by omega)
        have h2 : (Lib.indexByte l c == -1) = false := by simpa using h1
        simp only [h2, Bool.false_eq_true, if_false, hm, or_true, iff_true]
        omega
theorem of_is (c : UInt8) (some_ : ByteArray) : lex_of.f (c.toNat : Int) some_ = some (decide (c ∈ some_.data.toList)) := by
  unfold lex_of.f strings_IndexByte.f
  have hc : ((c.toNat : Int)).toNat.toUInt8 = c := by simp
  rw [hc]
  simp only [Option.bind_some, Option.some.injEq]
  by_cases h : c ∈ some_.data.toList
  · have := (indexByte_mem some_.data.toList c).2 h
    simp [h]
    omega
  · have : ¬ 0 ≤ Lib.indexByte some_.data.toList c := fun hh => h ((indexByte_mem _ _).1 hh)
    simp [h]
    omega
theorem wrapS {x : Int} (h0 : 0 ≤ x) (h1 : x ≤ 1152921504606846976) : wrap64 x = x := by
  unfold wrap64
  omega
theorem list_size (s : ByteArray) : s.data.toList.length = s.size := by rw [Array.length_toList]; rfl
theorem bt_list (s : ByteArray) (i : Nat) (c : UInt8) (h : s.data.toList[i]? = some c) : bt s (i : Int) = (c.toNat : Int) := by
  obtain ⟨hi, rfl⟩ := List.getElem?_eq_some_iff.1 h
  have hs : i < s.size := by rw [← list_size]; exact hi
  unfold bt
  rw [dif_pos (by omega)]
  simp
  rfl
/-- How far a run goes. -/
def runN (p : UInt8 → Bool) (l : List UInt8) : Nat := (l.takeWhile p).length
theorem run_loop (s x : ByteArray) (p : UInt8 → Bool) (hp : ∀ c, decide (c ∈ x.data.toList) = p c) (hs : s.size ≤ 1152921504606846976) : ∀ (d i k : Nat), s.size - i = d → i ≤ s.size → d < k →
    lex_run.l0 k s x (i : Int) = some (s.extract 0 (i + runN p (s.data.toList.drop i))) := by
  intro d
  induction d with
  | zero =>
    intro i k hd hi hk
    obtain ⟨k, rfl⟩ : ∃ m, k = m + 1 := ⟨k - 1, by omega⟩
    have : i = s.size := by omega
    subst this
    simp only [lex_run.l0]
    rw [if_neg (by omega), if_pos (by omega), if_pos (by omega), List.drop_eq_nil_of_le (by rw [list_size]; exact Nat.le_refl _)]
    simp [runN]
  | succ d ih =>
    intro i k hd hi hk
    obtain ⟨k, rfl⟩ : ∃ m, k = m + 1 := ⟨k - 1, by omega⟩
    have hlt : i < s.data.toList.length := by rw [list_size]; omega
    have hg : s.data.toList[i]? = some s.data.toList[i] := List.getElem?_eq_getElem hlt
    simp only [lex_run.l0]
    rw [if_pos (by omega), if_pos (by omega), bt_list s i _ hg, of_is, hp]
    rw [List.drop_eq_getElem_cons hlt]
    simp only [Option.bind_some]
    by_cases hc : p s.data.toList[i] = true
    · rw [if_pos hc, wrapS (by omega) (by omega), show ((i : Int) + 1) = ((i + 1 : Nat) : Int) from by omega, ih (i + 1) k (by omega) (by omega) (by omega)]
      simp only [runN, List.takeWhile_cons, hc, if_true, List.length_cons]
      congr 2
      omega
    · rw [if_neg hc, if_pos (by omega), Int.toNat_natCast]
      have h0 : runN p (s.data.toList[i] :: s.data.toList.drop (i + 1)) = 0 := by
        unfold runN
        rw [List.takeWhile_cons_of_neg hc]
        rfl
      rw [h0, Nat.add_zero]
theorem run_is (s x : ByteArray) (p : UInt8 → Bool) (hp : ∀ c, decide (c ∈ x.data.toList) = p c) (hs : s.size ≤ 1152921504606846976) (k : Nat) (hk : s.size < k) : lex_run.f k s x = some (s.extract 0 (runN p s.data.toList)) := by
  unfold lex_run.f
  have := run_loop s x p hp hs s.size 0 k rfl (Nat.zero_le _) hk
  simpa using this
theorem tw_all (p : UInt8 → Bool) : ∀ l : List UInt8, l.all p = true ↔ l.takeWhile p = l
  | [] => by simp
  | c :: l => by
    have ih := tw_all p l
    by_cases h : p c = true
    · rw [List.takeWhile_cons_of_pos h, List.all_cons, h, Bool.true_and, ih]
      simp
    · rw [List.takeWhile_cons_of_neg h, List.all_cons]
      simp [h]
theorem bytes_ext {a b : ByteArray} (h : a.data.toList = b.data.toList) : a = b := by
  cases a; cases b
  simp only at h
  rw [Array.toList_inj] at h
  rw [h]
theorem toList_data (s : ByteArray) : s.toList = s.data.toList := ByteArray.toList_eq s
theorem extract_list (s : ByteArray) (n : Nat) : (s.extract 0 n).data.toList = s.data.toList.take n := by
  simp
/-- The index of a text among texts, as the library's loop finds it. -/
theorem index_loop (ps : List ByteArray) (x : ByteArray) (hl : ps.length ≤ 1000000) : ∀ (d i k : Nat), ps.length - i = d → i ≤ ps.length → d < k →
    ∃ r, slices_Index_string_string.l0 k ps x (ps.length : Int) (i : Int) = some r ∧ (0 ≤ r ↔ x.data.toList ∈ (ps.drop i).map (·.data.toList)) := by
  intro d
  induction d with
  | zero =>
    intro i k hd hi hk
    obtain ⟨k, rfl⟩ : ∃ m, k = m + 1 := ⟨k - 1, by omega⟩
    refine ⟨-1, ?_, ?_⟩
    · simp only [slices_Index_string_string.l0]
      rw [if_neg (by omega)]
    · rw [List.drop_eq_nil_of_le (by omega)]
      simp
  | succ d ih =>
    intro i k hd hi hk
    obtain ⟨k, rfl⟩ : ∃ m, k = m + 1 := ⟨k - 1, by omega⟩
    have hlt : i < ps.length := by omega
    have hrd : rdOf ByteArray.empty ps (i : Int) = ps[i] := by
      unfold rdOf
      rw [Int.toNat_natCast, List.getD_eq_getElem?_getD, List.getElem?_eq_getElem hlt]
      rfl
    simp only [slices_Index_string_string.l0]
    rw [if_pos (by omega), if_pos (by omega), if_pos (by omega), hrd, toList_data, toList_data, List.drop_eq_getElem_cons hlt]
    by_cases h : x.data.toList = ps[i].data.toList
    · refine ⟨i, by rw [if_pos h], ?_⟩
      rw [List.map_cons, List.mem_cons]
      exact ⟨fun _ => .inl h, fun _ => by omega⟩
    · rw [if_neg h, wrapS (by omega) (by omega), show ((i : Int) + 1) = ((i + 1 : Nat) : Int) from by omega]
      obtain ⟨r, hr, hiff⟩ := ih (i + 1) k (by omega) (by omega) (by omega)
      refine ⟨r, hr, ?_⟩
      rw [hiff, List.map_cons, List.mem_cons]
      simp [h]
theorem contains_is (ps : List ByteArray) (x : ByteArray) (hl : ps.length ≤ 1000000) (k : Nat) (hk : ps.length < k) : slices_Contains_string_string.f k ps x = some (decide (x.data.toList ∈ ps.map (·.data.toList))) := by
  unfold slices_Contains_string_string.f slices_Index_string_string.f
  obtain ⟨r, hr, hiff⟩ := index_loop ps x hl ps.length 0 k rfl (Nat.zero_le _) hk
  rw [show ((0 : Nat) : Int) = 0 from rfl] at hr
  rw [hr]
  simp only [Option.bind_some, Option.some.injEq]
  rw [List.drop_zero] at hiff
  by_cases h : x.data.toList ∈ ps.map (·.data.toList)
  · have := hiff.2 h
    rw [decide_eq_true h]
    simp
    omega
  · have : ¬ 0 ≤ r := fun hh => h (hiff.1 hh)
    rw [decide_eq_false h]
    simp
    omega
def keywordsB : ByteArray := ⟨#[102, 117, 110, 32, 108, 101, 116, 32, 114, 101, 99, 32, 105, 110, 32, 105, 102, 32, 116, 104, 101, 110, 32, 101, 108, 115, 101, 32, 104, 97, 110, 100, 108, 101, 32, 119, 105, 116, 104, 32, 114, 101, 116, 117, 114, 110, 32, 101, 110, 100, 32, 100, 111, 32, 111, 112, 32, 116, 114, 117, 101, 32, 102, 97, 108, 115, 101, 32, 105, 110, 116, 32, 98, 111, 111, 108]⟩
theorem split_keywords : (strings_Split.f keywordsB ⟨#[32]⟩).map (fun ps => ps.map (·.data.toList)) = some kwL := by decide +kernel
theorem keyword_is (s : ByteArray) (k : Nat) (hk : 20 ≤ k) : lex_Keyword.f k s = some (kw s.data.toList) := by
  have h := split_keywords
  show (strings_Split.f keywordsB ⟨#[32]⟩).bind _ = _
  cases hp : strings_Split.f keywordsB ⟨#[32]⟩ with
  | none => rw [hp] at h; cases h
  | some ps =>
    rw [hp] at h
    have hps : ps.map (·.data.toList) = kwL := Option.some.inj h
    have hlen : ps.length = 17 := by
      have := congrArg List.length hps
      simpa [kwL] using this
    simp only [Option.bind_some]
    rw [contains_is ps s (by omega) k (by omega), hps]
    simp only [Option.bind_some, kw, List.contains_eq_mem]
theorem nameMay_is (s : ByteArray) (k : Nat) (hk : 40 ≤ k) : lex_NameMay.f k s = some (nm s.data.toList) := by
  unfold lex_NameMay.f
  have hsz := list_size s
  rw [toList_data]
  by_cases h0 : s.data.toList = []
  · rw [if_pos h0, h0]
    rfl
  · rw [if_neg h0]
    obtain ⟨c, r, hcr⟩ := List.exists_cons_of_ne_nil h0
    have hlen : r.length + 1 = s.size := by rw [← hsz, hcr]; rfl
    by_cases h1 : (s.size : Int) ≤ 16
    · rw [if_pos h1, if_pos (by omega)]
      have hb : bt s 0 = (c.toNat : Int) := bt_list s 0 c (by rw [hcr]; rfl)
      rw [hb]
      rw [show (⟨#[97, 98, 99, 100, 101, 102, 103, 104, 105, 106, 107, 108, 109, 110, 111, 112, 113, 114, 115, 116, 117, 118, 119, 120, 121, 122]⟩ : ByteArray) = lettersB from rfl, of_is, mem_letters]
      simp only [Option.bind_some]
      by_cases h2 : isLet c = true
      · rw [if_pos h2]
        rw [show (⟨#[97, 98, 99, 100, 101, 102, 103, 104, 105, 106, 107, 108, 109, 110, 111, 112, 113, 114, 115, 116, 117, 118, 119, 120, 121, 122, 48, 49, 50, 51, 52, 53, 54, 55, 56, 57, 95]⟩ : ByteArray) = moreB from rfl, run_is s moreB isMore mem_more (by omega) k (by omega)]
        simp only [Option.bind_some]
        rw [toList_data, extract_list, keyword_is s k (by omega)]
        have hm : isMore c = true := by simp [isMore, h2]
        by_cases h3 : r.all isMore = true
        · have ht : s.data.toList.take (runN isMore s.data.toList) = s.data.toList := by
            have : (c :: r).all isMore = true := by simp only [List.all_cons, hm, h3, Bool.and_self]
            rw [hcr, runN, (tw_all isMore _).1 this, List.take_length]
          rw [if_pos ht]
          simp only [Option.bind_some]
          rw [hcr]
          simp [nm, h2, h3, show r.length < 16 by omega]
        · have ht : ¬ s.data.toList.take (runN isMore s.data.toList) = s.data.toList := by
            intro he
            apply h3
            have hl := congrArg List.length he
            rw [List.length_take, hcr] at hl
            have hle : runN isMore (c :: r) ≤ (c :: r).length := (List.takeWhile_prefix isMore).length_le
            have hfull : runN isMore (c :: r) = (c :: r).length := by omega
            have : (c :: r).takeWhile isMore = c :: r := (List.takeWhile_prefix isMore).eq_of_length hfull
            have h4 := (tw_all isMore _).2 this
            rw [List.all_cons, hm, Bool.true_and] at h4
            exact h4
          rw [if_neg ht, hcr]
          simp [nm, h3]
      · rw [if_neg h2, hcr]
        simp [nm, h2]
    · rw [if_neg h1, hcr]
      simp [nm, show ¬ r.length < 16 by omega]
end Go.Proofs.YtnogfhhfklkbiaaDoor.H

namespace Go.Proofs.YtnogfhhfklkbiaaDoor.H
open Go.RowKit Go.Proofs.YtnogfhhfklkbiaaDoorW.PrintWords Go.Proofs.YtnogfhhfklkbiaaDoorW.PrintLast Go.Proofs.YtnogfhhfklkbiaaDoorW.PrintMore
attribute [local go_sem] max2_int min2_int max_two min_two max_three min_three max_four min_four   -- for this text's walks alone
set_option linter.unusedVariables false
set_option linter.unusedSimpArgs false

/-! ### tree_Kids: function 44 -/
-- import Derived.RegionTactic
-- import Derived.ChangeAlike
/-- How many children a node of a kind has. -/
def kidsN (kind : Int) : Nat := if kind = 3 ∨ kind = 9 then 1 else if kind = 4 ∨ kind = 5 ∨ kind = 6 ∨ kind = 8 then 2 else if kind = 7 ∨ kind = 10 then 3 else 0
theorem kidsN_le (kind : Int) : kidsN kind ≤ 3 := by unfold kidsN; repeat' split
                                                     all_goals omega
/-- A node's children's fields, in their row. -/
def kidsOf (x : S45) : List Int := [x.f1, x.f2, x.f3].take (kidsN x.f0)
/-- Pointers to fields that lie one behind the other. -/
def fieldPtrs (b o n : Nat) : List Value := (List.range n).map fun j => .pointer (some ⟨b, o + j, none⟩)
/-- A slice value over a block that holds just its elements. -/
def ptrOf (g n : Nat) : Option Addr := if n = 0 then none else some ⟨g, 0, none⟩
theorem ptrOf_some {g n : Nat} (h : 0 < n) : ptrOf g n = some ⟨g, 0, none⟩ := by unfold ptrOf; rw [if_neg (by omega)]
/-- A slice of pointers to fields that lie one behind the other, made just now. -/
def KidsPost (b o : Nat) (n : Nat) (w : World) (e : Ending) (w' : World) : Prop :=
  e = .returned (.slice (ptrOf w.heap.size n) n n) ∧ Below w.heap.size w w' ∧ (0 < n → w'.heap[w.heap.size]? = some (.cells (fieldPtrs b o n).toArray 74 (0, 0)))
set_option maxHeartbeats 1000000 in
theorem kids_zero (b o : Nat) (kind : Int) (w : World) (h : w.cell? ⟨b, o, none⟩ = some (.int .i64 kind)) (h3 : (kind == 3) = false) (h9 : (kind == 9) = false) (h4 : (kind == 4) = false) (h5 : (kind == 5) = false) (h6 : (kind == 6) = false) (h8 : (kind == 8) = false) (h7 : (kind == 7) = false) (h10 : (kind == 10) = false) :
    Calls Tryd.prog 44 #[.pointer (some ⟨b, o, none⟩)] w (KidsPost b (o + 1) 0 w) := by
  go_enter Tryd.func44, Tryd.ntmps44
  go_wp2
  go_ret
  exact ⟨rfl, Below.refl _ _, fun h => by omega⟩
set_option maxHeartbeats 4000000 in
theorem kids_some (b o : Nat) (kind : Int) (n : Nat) (w : World) (h : w.cell? ⟨b, o, none⟩ = some (.int .i64 kind)) (hk : kidsN kind = n) (hn : 0 < n) :
    Calls Tryd.prog 44 #[.pointer (some ⟨b, o, none⟩)] w (KidsPost b (o + 1) n w) := by
  have hc : (n = 1 ∧ (kind = 3 ∨ kind = 9)) ∨ (n = 2 ∧ (kind = 4 ∨ kind = 5 ∨ kind = 6 ∨ kind = 8)) ∨ (n = 3 ∧ (kind = 7 ∨ kind = 10)) := by
    unfold kidsN at hk
    split at hk
    · omega
    · split at hk
      · omega
      · split at hk
        · omega
        · omega
  clear hk hn
  rcases hc with ⟨rfl, rfl | rfl⟩ | ⟨rfl, rfl | rfl | rfl | rfl⟩ | ⟨rfl, rfl | rfl⟩
  · go_enter Tryd.func44, Tryd.ntmps44
    go_wp2
    go_ret
    exact ⟨rfl, (Below.refl _ _).alloc (Nat.le_refl _) _, fun _ => (heap_alloc_new w _).trans rfl⟩
  · go_enter Tryd.func44, Tryd.ntmps44
    go_wp2
    go_ret
    exact ⟨rfl, (Below.refl _ _).alloc (Nat.le_refl _) _, fun _ => (heap_alloc_new w _).trans rfl⟩
  all_goals
    go_enter Tryd.func44, Tryd.ntmps44
    go_wp2
    go_region
    all_goals go_wp2
    all_goals go_ret
    all_goals exact ⟨rfl, below_drew ((Below.refl _ _).alloc (Nat.le_refl _) _), fun _ => (heap_alloc_new w _).trans rfl⟩
theorem kids_calls (b o : Nat) (kind : Int) (w : World) (h : w.cell? ⟨b, o, none⟩ = some (.int .i64 kind)) :
    Calls Tryd.prog 44 #[.pointer (some ⟨b, o, none⟩)] w (KidsPost b (o + 1) (kidsN kind) w) := by
  by_cases hn : 0 < kidsN kind
  · exact kids_some b o kind _ w h rfl hn
  · have h0 : kidsN kind = 0 := by omega
    rw [h0]
    have hc : ¬ (kind = 3 ∨ kind = 9) ∧ ¬ (kind = 4 ∨ kind = 5 ∨ kind = 6 ∨ kind = 8) ∧ ¬ (kind = 7 ∨ kind = 10) := by
      unfold kidsN at h0
      refine ⟨fun h => ?_, fun h => ?_, fun h => ?_⟩
      · rw [if_pos h] at h0; omega
      · rw [if_neg (by omega), if_pos h] at h0; omega
      · rw [if_neg (by omega), if_neg (by omega), if_pos h] at h0; omega
    refine kids_zero b o kind w h ?_ ?_ ?_ ?_ ?_ ?_ ?_ ?_ <;> (rw [beq_eq_false_iff_ne]; omega)


end Go.Proofs.YtnogfhhfklkbiaaDoor.H

namespace Go.Proofs.YtnogfhhfklkbiaaDoor.H
open Go.RowKit Go.Proofs.YtnogfhhfklkbiaaDoorW.PrintWords Go.Proofs.YtnogfhhfklkbiaaDoorW.PrintLast Go.Proofs.YtnogfhhfklkbiaaDoorW.PrintMore
attribute [local go_sem] max2_int min2_int max_two min_two max_three min_three max_four min_four   -- for this text's walks alone
set_option linter.unusedVariables false
set_option linter.unusedSimpArgs false

/-! ### slices_Reverse_pint: function 64 -/
-- for slices.Reverse[[]*int,*int]
-- import Derived.RegionTactic
-- import Derived.ChangeAlike
/-- A block of pointers is turned round. -/
def RevPost (g : Nat) (ps : List Value) (w : World) (e : Ending) (w' : World) : Prop :=
  e = .returned (.tuple #[]) ∧ (∀ B, B ≤ g → Below B w w') ∧ KeepBut w w' g none ∧ (0 < ps.length → w'.heap[g]? = some (.cells ps.reverse.toArray 74 (0, 0)))
theorem revpost_of {g : Nat} {ps : List Value} {w w' : World} (h : w.heap[g]? = some (.cells ps.toArray 74 (0, 0))) (u0 u1 : Value) (i j m : Nat) (e : ((ps.toArray.setIfInBounds i u0).setIfInBounds j u1) = ps.reverse.toArray)
    (hw : w' = ((w.drewN m).setCell ⟨g, i, none⟩ u0).setCell ⟨g, j, none⟩ u1) : RevPost g ps w (.returned (.tuple #[])) w' := by
  subst hw
  refine ⟨rfl, fun B hB => ((pw_below_drewN (Below.refl _ _) m).setCell hB _).setCell hB _, ((keep_drewN (KeepBut.refl _ _ _) m).set_ _ _).set_ _ _, fun _ => ?_⟩
  have h1 : (w.drewN m).heap[g]? = some (.cells ps.toArray 74 (0, 0)) := h
  rw [blk_set (blk_set h1 i u0) j u1, e]
set_option maxRecDepth 100000 in
set_option maxHeartbeats 4000000 in
theorem reverse_calls (g : Nat) (ps : List Value) (w : World) (hn : ps.length ≤ 3) (hp : ∀ p ∈ ps, ∃ a : Addr, p = .pointer (some a)) (hb : 0 < ps.length → w.heap[g]? = some (.cells ps.toArray 74 (0, 0))) :
    Calls Tryd.prog 64 #[.slice (ptrOf g ps.length) ps.length ps.length] w (RevPost g ps w) := by
  match ps, hn, hp, hb with
  | [], _, _, _ =>
    show Calls Tryd.prog 64 #[.slice none 0 0] w _
    go_enter Tryd.func64, Tryd.ntmps64
    go_wp2
    refine wp_loop_rounds 1 ?_
    rw [rounds_succ]
    go_wp2
    go_end0
    exact ⟨rfl, fun B _ => Below.refl _ _, KeepBut.refl _ _ _, fun h => by simp at h⟩
  | [p0], _, hp, hb =>
    have h0 := hb (by simp)
    clear hb hp
    show Calls Tryd.prog 64 #[.slice (some ⟨g, 0, none⟩) 1 1] w _
    go_enter Tryd.func64, Tryd.ntmps64
    go_wp2
    refine wp_loop_rounds 1 ?_
    rw [rounds_succ]
    go_wp2
    go_end0
    exact ⟨rfl, fun B _ => Below.refl _ _, KeepBut.refl _ _ _, fun _ => h0⟩
  | [p0, p1], _, hp, hb =>
    have h0 := hb (by simp)
    obtain ⟨a0, rfl⟩ := hp p0 (by simp)
    obtain ⟨a1, rfl⟩ := hp p1 (by simp)
    clear hb hp
    have c0 : w.cell? ⟨g, 0, none⟩ = some (.pointer (some a0)) := blk_cell h0 0
    have c1 : w.cell? ⟨g, 1, none⟩ = some (.pointer (some a1)) := blk_cell h0 1
    have f0 : w.frozen? ⟨g, 0, none⟩ = false := blk_frozen h0 0
    have f1 : w.frozen? ⟨g, 1, none⟩ = false := blk_frozen h0 1
    have H0 := Aside0.mk h0
    clear h0
    show Calls Tryd.prog 64 #[.slice (some ⟨g, 0, none⟩) 2 2] w _
    go_enter Tryd.func64, Tryd.ntmps64
    go_wp2
    refine wp_loop_rounds 2 ?_
    rw [rounds_succ]
    go_wp2
    go_region
    all_goals go_wp2
    all_goals rw [rounds_succ]
    all_goals go_wp2
    all_goals go_end0
    all_goals exact revpost_of H0.out _ _ 0 1 1 rfl rfl
  | [p0, p1, p2], _, hp, hb =>
    have h0 := hb (by simp)
    obtain ⟨a0, rfl⟩ := hp p0 (by simp)
    obtain ⟨a2, rfl⟩ := hp p2 (by simp)
    clear hb hp
    have c0 : w.cell? ⟨g, 0, none⟩ = some (.pointer (some a0)) := blk_cell h0 0
    have c2 : w.cell? ⟨g, 2, none⟩ = some (.pointer (some a2)) := blk_cell h0 2
    have f0 : w.frozen? ⟨g, 0, none⟩ = false := blk_frozen h0 0
    have f2 : w.frozen? ⟨g, 2, none⟩ = false := blk_frozen h0 2
    have H0 := Aside0.mk h0
    clear h0
    show Calls Tryd.prog 64 #[.slice (some ⟨g, 0, none⟩) 3 3] w _
    go_enter Tryd.func64, Tryd.ntmps64
    go_wp2
    refine wp_loop_rounds 2 ?_
    rw [rounds_succ]
    go_wp2
    go_region
    all_goals go_wp2
    all_goals rw [rounds_succ]
    all_goals go_wp2
    all_goals go_end0
    all_goals exact revpost_of H0.out _ _ 0 2 1 rfl rfl


end Go.Proofs.YtnogfhhfklkbiaaDoor.H

namespace Go.Proofs.YtnogfhhfklkbiaaDoor.H
open Go.RowKit Go.Proofs.YtnogfhhfklkbiaaDoorW.PrintWords Go.Proofs.YtnogfhhfklkbiaaDoorW.PrintLast Go.Proofs.YtnogfhhfklkbiaaDoorW.PrintMore
attribute [local go_sem] max2_int min2_int max_two min_two max_three min_three max_four min_four   -- for this text's walks alone
set_option linter.unusedVariables false
set_option linter.unusedSimpArgs false

/-! ### tree_Begin: function 42 -/
-- rounds -- making
/-- The children behind one another, from the last one on: where the part begins. -/
def goB (g : Int → Option Int) : List Int → Int → Option Int
  | [], a => some a
  | c :: cs, a => if wrap64 (a - 1) < 0 then some (-1) else if c = wrap64 (a - 1) then (g (wrap64 (a - 1))).bind fun r => if r < 0 then some (-1) else goB g cs r else some (-1)
def tree_Begin.f : Nat → List S45 → Int → Option Int
  | 0, _, _ => none
  | k + 1, l, a => if 0 ≤ a then (if a < (l.length : Int) then goB (tree_Begin.f k l) (kidsOf (rd_T45 l a)).reverse a else none) else none
theorem goB_mono {g g' : Int → Option Int} (h : ∀ x, LeO (g x) (g' x)) : ∀ cs a, LeO (goB g cs a) (goB g' cs a)
  | [], a => LeO.refl _
  | c :: cs, a => by
    unfold goB
    exact LeO.ite (LeO.refl _) (LeO.ite (LeO.bind (h _) fun r => LeO.ite (LeO.refl _) (goB_mono h cs r)) (LeO.refl _))
theorem tree_Begin.mono : ∀ a0 a1 k, LeO (tree_Begin.f k a0 a1) (tree_Begin.f (k + 1) a0 a1) := by
  intro l a k
  induction k generalizing a with
  | zero => exact fun r h => by simp [tree_Begin.f] at h
  | succ k ih =>
    rw [tree_Begin.f, tree_Begin.f]
    exact LeO.ite (LeO.ite (goB_mono (fun x => ih x) _ _) (LeO.none _)) (LeO.none _)
theorem C_belowB {α : Type} {d : Kd α} {w W : World} {A : Option Addr} {n : Nat} {xs : List α} (h : Kd.C d w A n xs) (hb : Below w.heap.size w W) : Kd.C d W A n xs := Kd.C_below h hb
theorem kidsOf_len (x : S45) : (kidsOf x).length = kidsN x.f0 := by
  have := kidsN_le x.f0
  simp [kidsOf]
  omega
theorem fieldPtrs_len (b o n : Nat) : (fieldPtrs b o n).length = n := by simp [fieldPtrs]
theorem fieldPtrs_ptr (b o n : Nat) : ∀ p ∈ fieldPtrs b o n, ∃ a : Addr, p = .pointer (some a) := by
  intro p hp
  simp only [fieldPtrs, List.mem_map] at hp
  obtain ⟨j, _, rfl⟩ := hp
  exact ⟨_, rfl⟩
theorem fieldPtrs_get (b o n j : Nat) (h : j < n) : (fieldPtrs b o n)[j]? = some (.pointer (some ⟨b, o + j, none⟩)) := by simp [fieldPtrs, h]
theorem fieldPtrs_rev (b o n i : Nat) (h : i < n) : (fieldPtrs b o n).reverse.toArray[i]? = some (.pointer (some ⟨b, o + (n - 1 - i), none⟩)) := by
  rw [List.getElem?_toArray, List.getElem?_reverse (by rw [fieldPtrs_len]; exact h), fieldPtrs_len]
  exact fieldPtrs_get _ _ _ _ (by omega)
theorem hr_drop {α : Type} {l : List α} {i : Nat} {c : α} (h : l[i]? = some c) : c :: l.drop (i + 1) = l.drop i := by
  obtain ⟨hi, rfl⟩ := List.getElem?_eq_some_iff.1 h
  exact (List.drop_eq_getElem_cons hi).symm
/-- The node that was copied: its fields' cells. -/
theorem node_cells {w : World} {g : Nat} (x : S45) (h : w.heap[g]? = some (.cells #[.int .i64 x.f0, .int .i64 x.f1, .int .i64 x.f2, .int .i64 x.f3, .int .i64 x.f4, .string x.f5, .string x.f6, .string x.f7, .string x.f8, .int .i64 x.f9] 45 (0, 0))) (j : Nat) (c : Int) (hj : (kidsOf x)[j]? = some c) :
    w.cell? ⟨g, 1 + j, none⟩ = some (.int .i64 c) := by
  have hl : j < 3 := by
    have := (List.getElem?_eq_some_iff.1 hj).1
    rw [kidsOf_len] at this
    have := kidsN_le x.f0
    omega
  have hk : ([x.f1, x.f2, x.f3] : List Int)[j]? = some c := by
    unfold kidsOf at hj
    rw [List.getElem?_take] at hj
    split at hj
    · exact hj
    · cases hj
  have e : ∀ j, w.cell? ⟨g, 1 + j, none⟩ = _ := fun j => blk_cell h (1 + j)
  rw [e j]
  match j, hl, hk with
  | 0, _, hk => simp at hk; subst hk; rfl
  | 1, _, hk => simp at hk; subst hk; rfl
  | 2, _, hk => simp at hk; subst hk; rfl
set_option maxRecDepth 100000 in
set_option maxHeartbeats 8000000 in
theorem tree_Begin.calls (k : Nat) : ∀ (A0 : Option Addr) (c0 : Nat) (l0 : List (S45)) (a1 : Int) (r : Int) (w : World) (hr0 : Kd.C k45 w A0 l0.length l0) (hc0 : l0.length ≤ c0) (h : tree_Begin.f k l0 a1 = some r),
    Calls Tryd.prog 42 #[.slice A0 l0.length c0, .int .i64 a1] w fun e w' => e = .returned (.int .i64 r) ∧ Below w.heap.size w w' := by
  induction k with
  | zero => intro A0 c0 l0 a1 r w hr0 hc0 h; exact absurd h (by simp [tree_Begin.f])
  | succ k ih =>
    intro A0 c0 l0 a1 r w hr0 hc0 h
    rw [tree_Begin.f] at h
    by_cases h0 : 0 ≤ a1
    · rw [if_pos h0] at h
      by_cases h1 : a1 < (l0.length : Int)
      · rw [if_pos h1] at h
        obtain ⟨ad, e157, hx0, hx1, hx2, hx3, hx4, hx5, hx6, hx7, hx8, hx9⟩ := at_T45 hr0 a1 h0 h1
        cases e157
        have H := Aside0.mk h
        have HC := Aside0.mk hr0
        have HL := Aside0.mk hc0
        clear h hr0 hc0
        generalize hX : rd_T45 l0 a1 = x at *
        have HX := Aside0.mk hX
        clear hX
        go_enter Tryd.func42, Tryd.ntmps42
        go_wp2_with fail
        refine (kids_calls w.heap.size 0 x.f0 _ (by simp)).mono ?_
        rintro e w1 ⟨rfl, hb1, hp1⟩
        have hz : (w.alloc (.cells #[.int .i64 x.f0, .int .i64 x.f1, .int .i64 x.f2, .int .i64 x.f3, .int .i64 x.f4, .string x.f5, .string x.f6, .string x.f7, .string x.f8, .int .i64 x.f9] 45)).heap.size = w.heap.size + 1 := by simp
        have hB1 : Below w.heap.size w w1 := (((Below.refl _ _).alloc (Nat.le_refl _) _)).trans (hb1.mono (by omega))
        have hnode : w1.heap[w.heap.size]? = some (.cells #[.int .i64 x.f0, .int .i64 x.f1, .int .i64 x.f2, .int .i64 x.f3, .int .i64 x.f4, .string x.f5, .string x.f6, .string x.f7, .string x.f8, .int .i64 x.f9] 45 (0, 0)) :=
          (hb1.block w.heap.size (by omega)).trans (heap_alloc_new w _)
        rw [hz] at hp1 ⊢
        have hs1 : w.heap.size + 1 ≤ w1.heap.size := by have := hb1.size; omega
        clear hb1 hz
        generalize hn : kidsN x.f0 = n at *
        have hl := fieldPtrs_len w.heap.size (0 + 1) n
        have HN := Aside0.mk hn
        have HB1 := Aside0.mk hB1
        have HNODE := Aside0.mk hnode
        have HP1 := Aside0.mk hp1
        have HL1 := Aside0.mk hl
        have hn3 : n ≤ 3 := by rw [← hn]; exact kidsN_le _
        clear hn hB1 hnode hp1 hl
        go_wp2_with fail
        have hrev := reverse_calls (w.heap.size + 1) (fieldPtrs w.heap.size (0 + 1) n) w1 (by rw [HL1.out]; exact hn3) (fieldPtrs_ptr _ _ _) (by rw [HL1.out]; exact HP1.out)
        rw [HL1.out] at hrev
        refine hrev.mono ?_
        rintro e w2 ⟨rfl, hb2, hk2, hp2⟩
        rw [HL1.out] at hp2
        have HB2 := Aside0.mk (HB1.out.trans (hb2 w.heap.size (by omega)))
        have HNODE2 := Aside0.mk ((hk2.2 w.heap.size (by omega) (by omega) (by simp)).trans HNODE.out)
        have HP2 := Aside0.mk hp2
        have hs2 : w.heap.size + 1 ≤ w2.heap.size := by have := hk2.1; omega
        clear hb2 hk2 hp2 hrev HB1 HNODE HP1
        go_wp2_with fail
        go_loopw [1, 18] (fun v1 v18 wr => ∃ (i : Nat) (at_ : Int), v1 = .int .i64 at_ ∧ v18 = .int .i64 i ∧ i ≤ n ∧ Aside0 (goB (tree_Begin.f k l0) ((kidsOf x).reverse.drop i) at_ = some r) ∧ Below w2.heap.size w2 wr) (fun _ v18 _ => n - (intOf v18).toNat)
        case atStart => exact ⟨0, a1, rfl, rfl, Nat.zero_le _, H, Below.refl _ _⟩
        case round =>
          obtain ⟨i, at_, rfl, rfl, hi, HG, hbr⟩ := hrel
          have HBR := Aside0.mk hbr
          clear hbr H
          by_cases hlt : i < n
          · have hpA : ptrOf (w.heap.size + 1) n = some ⟨w.heap.size + 1, 0, none⟩ := ptrOf_some (by omega)
            rw [hpA]
            have hlen : (kidsOf x).length = n := (kidsOf_len x).trans HN.out
            have hget : ∃ c, (kidsOf x)[n - 1 - i]? = some c := ⟨_, List.getElem?_eq_getElem (by omega)⟩
            obtain ⟨c, hc⟩ := hget
            have hdrop : (kidsOf x).reverse.drop i = c :: (kidsOf x).reverse.drop (i + 1) := by
              have hr : (kidsOf x).reverse[i]? = some c := by rw [List.getElem?_reverse (by omega), hlen]; exact hc
              rw [← hr_drop hr]
            have c1 : wr.cell? ⟨w.heap.size, 1 + (n - 1 - i), none⟩ = some (.int .i64 c) := (HBR.out.cell (p := ⟨w.heap.size, 1 + (n - 1 - i), none⟩) (by show w.heap.size < _; omega)).trans (node_cells x HNODE2.out (n - 1 - i) c hc)
            have c2 : wr.cell? ⟨w.heap.size + 1, i, none⟩ = some (.pointer (some ⟨w.heap.size, 1 + (n - 1 - i), none⟩)) := by
              have hh := blk_lt (HP2.out (by omega))
              rw [HBR.out.cell (p := ⟨w.heap.size + 1, i, none⟩) (by show w.heap.size + 1 < _; omega), blk_cell (HP2.out (by omega)) i]
              exact fieldPtrs_rev _ _ _ _ hlt
            have HG' := HG.out
            rw [hdrop, goB] at HG'
            have HD := Aside0.mk hdrop
            clear hdrop hlen HG hc
            have hcr : Aside0 (Kd.C k45 wr (some ad) l0.length l0) := ⟨Kd.C_below HC.out (HB2.out.trans (HBR.out.mono (by omega)))⟩
            by_cases t1 : wrap64 (at_ - 1) < 0
            · rw [if_pos t1] at HG'
              obtain rfl := Option.some.inj HG'
              have t1b : decide (wrap64 (at_ - 1) < 0) = true := decide_eq_true t1
              clear t1 HG'
              go_wp2
              go_ret
              exact ⟨rfl, HB2.out.trans (HBR.out.mono (by omega))⟩
            · rw [if_neg t1] at HG'
              have t1b : decide (wrap64 (at_ - 1) < 0) = false := decide_eq_false t1
              clear t1
              by_cases t2 : c = wrap64 (at_ - 1)
              · rw [if_pos t2] at HG'
                have t2b : (c != wrap64 (at_ - 1)) = false := by rw [t2]; simp
                clear t2
                replace HG' := Option.bind_eq_some_iff.mp HG'
                obtain ⟨r1, hr1, HG'⟩ := HG'
                have HR1 := Aside0.mk hr1
                clear hr1
                by_cases t3 : r1 < 0
                · rw [if_pos t3] at HG'
                  obtain rfl := Option.some.inj HG'
                  have t3b : decide (r1 < 0) = true := decide_eq_true t3
                  clear t3 HG'
                  go_wp2_with (go_at_call 42; (with_reducible refine (ih (some ad) c0 l0 (wrap64 (at_ - 1)) r1 _ hcr.out HL.out HR1.out).mono ?_); rintro e w3 ⟨rfl, hb3⟩; have HB3 := Aside0.mk hb3; clear hb3)
                  go_ret
                  exact ⟨rfl, HB2.out.trans ((HBR.out.mono (by omega)).trans (HB3.out.mono (by have := HBR.out.size; omega)))⟩
                · rw [if_neg t3] at HG'
                  have HG2 := Aside0.mk HG'
                  have t3b : decide (r1 < 0) = false := decide_eq_false t3
                  clear t3 HG'
                  go_wp2_with (go_at_call 42; (with_reducible refine (ih (some ad) c0 l0 (wrap64 (at_ - 1)) r1 _ hcr.out HL.out HR1.out).mono ?_); rintro e w3 ⟨rfl, hb3⟩; have HB3 := Aside0.mk hb3; clear hb3)
                  go_roundw
                  case rel => exact ⟨i + 1, r1, rfl, by go_num, by omega, HG2, HBR.out.trans (HB3.out.mono (HBR.out.size))⟩
                  case measure => simp [intOf]; omega
              · rw [if_neg t2] at HG'
                obtain rfl := Option.some.inj HG'
                have t2b : (c != wrap64 (at_ - 1)) = true := by simpa using t2
                clear t2 HG'
                go_wp2
                go_ret
                exact ⟨rfl, HB2.out.trans (HBR.out.mono (by omega))⟩
          · have hin : i = n := by omega
            have HG' := HG.out
            rw [List.drop_eq_nil_of_le (by rw [List.length_reverse, kidsOf_len, HN.out]; omega), goB] at HG'
            obtain rfl := Option.some.inj HG'
            clear HG' HG hin
            go_wp2
            go_ret
            exact ⟨rfl, HB2.out.trans (HBR.out.mono (by omega))⟩
      · rw [if_neg h1] at h; cases h
    · rw [if_neg h0] at h; cases h


end Go.Proofs.YtnogfhhfklkbiaaDoor.H

namespace Go.Proofs.YtnogfhhfklkbiaaDoor.H
open Go.RowKit Go.Proofs.YtnogfhhfklkbiaaDoorW.PrintWords Go.Proofs.YtnogfhhfklkbiaaDoorW.PrintLast Go.Proofs.YtnogfhhfklkbiaaDoorW.PrintMore
attribute [local go_sem] max2_int min2_int max_two min_two max_three min_three max_four min_four   -- for this text's walks alone
set_option linter.unusedVariables false
set_option linter.unusedSimpArgs false

theorem eqA45 (d : Nat) (w : World) (x0 y0 : Int) (x1 y1 : Int) (x2 y2 : Int) (x3 y3 : Int) (x4 y4 : Int) (x5 y5 : ByteArray) (x6 y6 : ByteArray) (x7 y7 : ByteArray) (x8 y8 : ByteArray) (x9 y9 : Int) :
    (Op.equalIn (d + 2) 45 (.agg #[.int .i64 x0, .int .i64 x1, .int .i64 x2, .int .i64 x3, .int .i64 x4, .string x5, .string x6, .string x7, .string x8, .int .i64 x9]) (.agg #[.int .i64 y0, .int .i64 y1, .int .i64 y2, .int .i64 y3, .int .i64 y4, .string y5, .string y6, .string y7, .string y8, .int .i64 y9])).run Tryd.prog w = .ok (x0 == y0 && (x1 == y1 && (x2 == y2 && (x3 == y3 && (x4 == y4 && (x5.toList == y5.toList && (x6.toList == y6.toList && (x7.toList == y7.toList && (x8.toList == y8.toList && (x9 == y9)))))))))) w := by
  refine eqA_of Tryd.underlying45 (by kernel_rfl) ?_
  refine eqf_cons (by rfl) (by go_simp; rfl) (by go_simp; rfl) (by go_simp) ?_
  refine eqf_cons (by rfl) (by go_simp; rfl) (by go_simp; rfl) (by go_simp) ?_
  refine eqf_cons (by rfl) (by go_simp; rfl) (by go_simp; rfl) (by go_simp) ?_
  refine eqf_cons (by rfl) (by go_simp; rfl) (by go_simp; rfl) (by go_simp) ?_
  refine eqf_cons (by rfl) (by go_simp; rfl) (by go_simp; rfl) (by go_simp) ?_
  refine eqf_cons (by rfl) (by go_simp; rfl) (by go_simp; rfl) (by go_simp) ?_
  refine eqf_cons (by rfl) (by go_simp; rfl) (by go_simp; rfl) (by go_simp) ?_
  refine eqf_cons (by rfl) (by go_simp; rfl) (by go_simp; rfl) (by go_simp) ?_
  refine eqf_cons (by rfl) (by go_simp; rfl) (by go_simp; rfl) (by go_simp) ?_
  exact eqf_last (by rfl) (by go_simp; rfl) (by go_simp; rfl) (by go_simp)
end Go.Proofs.YtnogfhhfklkbiaaDoor.H

namespace Go.Proofs.YtnogfhhfklkbiaaDoor.H
open Go.RowKit Go.Proofs.YtnogfhhfklkbiaaDoorW.PrintWords Go.Proofs.YtnogfhhfklkbiaaDoorW.PrintLast Go.Proofs.YtnogfhhfklkbiaaDoorW.PrintMore
attribute [local go_sem] max2_int min2_int max_two min_two max_three min_three max_four min_four   -- for this text's walks alone
set_option linter.unusedVariables false
set_option linter.unusedSimpArgs false

/-! ### tree_most: function 92 -/
def tree_most.f (a0 : Int) : Option (Int) := if a0 = 1 then (some 1073741823) else (if a0 = 2 then (some 1) else (if a0 = 8 then (some 5) else (some (-1))))
set_option maxHeartbeats 8000000 in
set_option maxRecDepth 100000 in
theorem tree_most.calls (a0 : Int) (r : Int) (w : World) (h : tree_most.f a0 = some r) :
    Calls Tryd.prog 92 #[.int .i64 a0] w fun e w' => e = .returned (.int .i64 r) ∧ Drawn0 w w' := by
  have H : (if a0 = 1 then (some 1073741823) else (if a0 = 2 then (some 1) else (if a0 = 8 then (some 5) else (some (-1))))) = some r := h
  clear h
  by_cases c2 : a0 = 1
  · rw [if_pos c2] at H
    have c2b0 : (a0 == 1) = true := beq_iff_eq.mpr c2
    have c2b1 : (a0 != 1) = false := bne_eq_false_iff_eq.mpr c2
    clear c2
    obtain rfl := Option.some.inj H
    go_enter Tryd.func92, Tryd.ntmps92
    go_wp2
    go_ret
    exact ⟨by first | rfl | (simp; done) | (simp [*]; done), by repeat (first | exact Drawn0.refl _ | apply Drawn0.step)⟩
  · rw [if_neg c2] at H
    have c2b0 : (a0 == 1) = false := beq_eq_false_iff_ne.mpr c2
    have c2b1 : (a0 != 1) = true := bne_iff_ne.mpr c2
    by_cases c3 : a0 = 2
    · rw [if_pos c3] at H
      have c3b0 : (a0 == 2) = true := beq_iff_eq.mpr c3
      have c3b1 : (a0 != 2) = false := bne_eq_false_iff_eq.mpr c3
      clear c3
      obtain rfl := Option.some.inj H
      go_enter Tryd.func92, Tryd.ntmps92
      go_wp2
      go_ret
      exact ⟨by first | rfl | (simp; done) | (simp [*]; done), by repeat (first | exact Drawn0.refl _ | apply Drawn0.step)⟩
    · rw [if_neg c3] at H
      have c3b0 : (a0 == 2) = false := beq_eq_false_iff_ne.mpr c3
      have c3b1 : (a0 != 2) = true := bne_iff_ne.mpr c3
      by_cases c4 : a0 = 8
      · rw [if_pos c4] at H
        have c4b0 : (a0 == 8) = true := beq_iff_eq.mpr c4
        have c4b1 : (a0 != 8) = false := bne_eq_false_iff_eq.mpr c4
        clear c4
        obtain rfl := Option.some.inj H
        go_enter Tryd.func92, Tryd.ntmps92
        go_wp2
        go_ret
        exact ⟨by first | rfl | (simp; done) | (simp [*]; done), by repeat (first | exact Drawn0.refl _ | apply Drawn0.step)⟩
      · rw [if_neg c4] at H
        have c4b0 : (a0 == 8) = false := beq_eq_false_iff_ne.mpr c4
        have c4b1 : (a0 != 8) = true := bne_iff_ne.mpr c4
        obtain rfl := Option.some.inj H
        go_enter Tryd.func92, Tryd.ntmps92
        go_wp2
        go_ret
        exact ⟨by first | rfl | (simp; done) | (simp [*]; done), by repeat (first | exact Drawn0.refl _ | apply Drawn0.step)⟩

end Go.Proofs.YtnogfhhfklkbiaaDoor.H

namespace Go.Proofs.YtnogfhhfklkbiaaDoor.H
open Go.RowKit Go.Proofs.YtnogfhhfklkbiaaDoorW.PrintWords Go.Proofs.YtnogfhhfklkbiaaDoorW.PrintLast Go.Proofs.YtnogfhhfklkbiaaDoorW.PrintMore
attribute [local go_sem] max2_int min2_int max_two min_two max_three min_three max_four min_four   -- for this text's walks alone
set_option linter.unusedVariables false
set_option linter.unusedSimpArgs false

/-! ### tree_names: function 93 -/
-- import Derived.RegionTactic
-- import Derived.ChangeAlike
/-- Where a node of a kind has its names. -/
def nameOffs (kind : Int) : List Nat := if kind = 0 ∨ kind = 9 then [5] else if kind = 3 ∨ kind = 5 then [6] else if kind = 6 then [6, 7] else if kind = 10 then [5, 6, 7, 8] else []
def namePtrs (b : Nat) (l : List Nat) : List Value := l.map fun j => .pointer (some ⟨b, j, none⟩)
def NamesPost (b : Nat) (l : List Nat) (w : World) (e : Ending) (w' : World) : Prop :=
  e = .returned (.slice (ptrOf w.heap.size l.length) l.length l.length) ∧ Below w.heap.size w w' ∧ (0 < l.length → w'.heap[w.heap.size]? = some (.cells (namePtrs b l).toArray 120 (0, 0)))
set_option maxRecDepth 100000 in
set_option maxHeartbeats 8000000 in
theorem names_calls (b : Nat) (kind : Int) (w : World) (h : w.cell? ⟨b, 0, none⟩ = some (.int .i64 kind)) :
    Calls Tryd.prog 93 #[.pointer (some ⟨b, 0, none⟩)] w (NamesPost b (nameOffs kind) w) := by
  by_cases c0 : kind = 0
  · subst c0
    go_enter Tryd.func93, Tryd.ntmps93
    go_wp2
    go_ret
    exact ⟨rfl, (Below.refl _ _).alloc (Nat.le_refl _) _, fun _ => (heap_alloc_new w _).trans rfl⟩
  · by_cases c9 : kind = 9
    · subst c9
      go_enter Tryd.func93, Tryd.ntmps93
      go_wp2
      go_ret
      exact ⟨rfl, (Below.refl _ _).alloc (Nat.le_refl _) _, fun _ => (heap_alloc_new w _).trans rfl⟩
    · by_cases c3 : kind = 3
      · subst c3
        go_enter Tryd.func93, Tryd.ntmps93
        go_wp2
        go_ret
        exact ⟨rfl, (Below.refl _ _).alloc (Nat.le_refl _) _, fun _ => (heap_alloc_new w _).trans rfl⟩
      · by_cases c5 : kind = 5
        · subst c5
          go_enter Tryd.func93, Tryd.ntmps93
          go_wp2
          go_ret
          exact ⟨rfl, (Below.refl _ _).alloc (Nat.le_refl _) _, fun _ => (heap_alloc_new w _).trans rfl⟩
        · by_cases c6 : kind = 6
          · subst c6
            go_enter Tryd.func93, Tryd.ntmps93
            go_wp2
            go_region
            all_goals go_wp2
            all_goals go_ret
            all_goals exact ⟨rfl, below_drew ((Below.refl _ _).alloc (Nat.le_refl _) _), fun _ => (heap_alloc_new w _).trans rfl⟩
          · by_cases c10 : kind = 10
            · subst c10
              go_enter Tryd.func93, Tryd.ntmps93
              go_wp2
              go_region
              all_goals go_wp2
              all_goals go_ret
              all_goals exact ⟨rfl, below_drew ((Below.refl _ _).alloc (Nat.le_refl _) _), fun _ => (heap_alloc_new w _).trans rfl⟩
            · have b0 : (kind == 0) = false := beq_eq_false_iff_ne.mpr c0
              have b9 : (kind == 9) = false := beq_eq_false_iff_ne.mpr c9
              have b3 : (kind == 3) = false := beq_eq_false_iff_ne.mpr c3
              have b5 : (kind == 5) = false := beq_eq_false_iff_ne.mpr c5
              have b6 : (kind == 6) = false := beq_eq_false_iff_ne.mpr c6
              have b10 : (kind == 10) = false := beq_eq_false_iff_ne.mpr c10
              have e : nameOffs kind = [] := by
                unfold nameOffs
                rw [if_neg (by omega), if_neg (by omega), if_neg c6, if_neg c10]
              rw [e]
              clear e c0 c9 c3 c5 c6 c10
              go_enter Tryd.func93, Tryd.ntmps93
              go_wp2
              go_ret
              exact ⟨rfl, Below.refl _ _, fun h => by simp at h⟩


end Go.Proofs.YtnogfhhfklkbiaaDoor.H

namespace Go.Proofs.YtnogfhhfklkbiaaDoor.H
open Go.RowKit Go.Proofs.YtnogfhhfklkbiaaDoorW.PrintWords Go.Proofs.YtnogfhhfklkbiaaDoorW.PrintLast Go.Proofs.YtnogfhhfklkbiaaDoorW.PrintMore
attribute [local go_sem] max2_int min2_int max_two min_two max_three min_three max_four min_four   -- for this text's walks alone
set_option linter.unusedVariables false
set_option linter.unusedSimpArgs false

/-! ### tree_Numbered: function 94 -/
def tree_Numbered.f (a0 : Int) : Option (Bool) := if a0 = 0 then (some true) else (if a0 = 9 then (some true) else (some (a0 == 10)))
set_option maxHeartbeats 8000000 in
set_option maxRecDepth 100000 in
theorem tree_Numbered.calls (a0 : Int) (r : Bool) (w : World) (h : tree_Numbered.f a0 = some r) :
    Calls Tryd.prog 94 #[.int .i64 a0] w fun e w' => e = .returned (.bool r) ∧ Drawn0 w w' := by
  have H : (if a0 = 0 then (some true) else (if a0 = 9 then (some true) else (some (a0 == 10)))) = some r := h
  clear h
  by_cases c2 : a0 = 0
  · rw [if_pos c2] at H
    have c2b0 : (a0 == 0) = true := beq_iff_eq.mpr c2
    have c2b1 : (a0 != 0) = false := bne_eq_false_iff_eq.mpr c2
    clear c2
    obtain rfl := Option.some.inj H
    go_enter Tryd.func94, Tryd.ntmps94
    go_wp2
    go_ret
    exact ⟨by first | rfl | (simp; done) | (simp [*]; done), by repeat (first | exact Drawn0.refl _ | apply Drawn0.step)⟩
  · rw [if_neg c2] at H
    have c2b0 : (a0 == 0) = false := beq_eq_false_iff_ne.mpr c2
    have c2b1 : (a0 != 0) = true := bne_iff_ne.mpr c2
    by_cases c3 : a0 = 9
    · rw [if_pos c3] at H
      have c3b0 : (a0 == 9) = true := beq_iff_eq.mpr c3
      have c3b1 : (a0 != 9) = false := bne_eq_false_iff_eq.mpr c3
      clear c3
      obtain rfl := Option.some.inj H
      go_enter Tryd.func94, Tryd.ntmps94
      go_wp2
      go_ret
      exact ⟨by first | rfl | (simp; done) | (simp [*]; done), by repeat (first | exact Drawn0.refl _ | apply Drawn0.step)⟩
    · rw [if_neg c3] at H
      have c3b0 : (a0 == 9) = false := beq_eq_false_iff_ne.mpr c3
      have c3b1 : (a0 != 9) = true := bne_iff_ne.mpr c3
      obtain rfl := Option.some.inj H
      go_enter Tryd.func94, Tryd.ntmps94
      go_wp2
      go_ret
      exact ⟨by first | rfl | (simp; done) | (simp [*]; done), by repeat (first | exact Drawn0.refl _ | apply Drawn0.step)⟩

end Go.Proofs.YtnogfhhfklkbiaaDoor.H
