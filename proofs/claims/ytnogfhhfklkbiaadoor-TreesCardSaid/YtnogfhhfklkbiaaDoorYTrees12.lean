/- Several texts in one: contracts of functions of the program, and what they lean on. In part written by a program of this session over the kit's print, in part by hand. -/
import Derived.Test.YtnogfhhfklkbiaaDoorYTrees2
import Derived.Test.YtnogfhhfklkbiaaDoorYTrees11
import Derived.Test.YtnogfhhfklkbiaaDoorYTrees7
import Derived.Test.YtnogfhhfklkbiaaDoorYTrees6
import Derived.Test.YtnogfhhfklkbiaaDoorYTrees8
import Derived.Test.YtnogfhhfklkbiaaDoorYTrees9
import Derived.Test.YtnogfhhfklkbiaaDoorYTrees10
namespace Go.Proofs.YtnogfhhfklkbiaaDoor.H
open Go.RowKit Go.Proofs.YtnogfhhfklkbiaaDoorW.PrintWords Go.Proofs.YtnogfhhfklkbiaaDoorW.PrintLast Go.Proofs.YtnogfhhfklkbiaaDoorW.PrintMore
attribute [local go_sem] max2_int min2_int max_two min_two max_three min_three max_four min_four
set_option linter.unusedVariables false
set_option linter.unusedSimpArgs false
attribute [local go_sem high] eqA48
def trammellaw0_SameOps.l0 : Nat → List (S48) → List (S48) → Int → Option (Bool)
  | 0, _, _, _ => none
  | k + 1, x0, x1, x5 => if x5 < (x0.length : Int) then (if 0 ≤ x5 then (if x5 < (x1.length : Int) then (if (!((((rd_T48 x0 x5).f0).toList) == (((rd_T48 x1 x5).f0).toList)) || (!(((rd_T48 x0 x5).f1) == ((rd_T48 x1 x5).f1)) || (!(((rd_T48 x0 x5).f2) == ((rd_T48 x1 x5).f2))))) = true then (some false) else (trammellaw0_SameOps.l0 k x0 x1 (wrap64 (x5 + 1)))) else (none)) else (none)) else (some true)
def trammellaw0_SameOps.f (k : Nat) (l0 : List (S48)) (l1 : List (S48)) : Option (Bool) := if (l0.length : Int) = (l1.length : Int) then (trammellaw0_SameOps.l0 k l0 l1 0) else (some false)
set_option maxHeartbeats 8000000 in
set_option maxRecDepth 100000 in
theorem trammellaw0_SameOps.calls (k : Nat) (A0 : Option Addr) (c0 : Nat) (l0 : List (S48)) (A1 : Option Addr) (c1 : Nat) (l1 : List (S48)) (r : Bool) (w : World) (hr0 : Kd.C k48 w A0 l0.length l0) (hc0 : l0.length ≤ c0) (hr1 : Kd.C k48 w A1 l1.length l1) (hc1 : l1.length ≤ c1) (h : trammellaw0_SameOps.f k l0 l1 = some r) :
    Calls Tryd.prog 76 #[.slice A0 l0.length c0, .slice A1 l1.length c1] w fun e w' => e = .returned (.bool r) ∧ Drawn0 w w' := by
  have hu48 := Tryd.underlying48
  have HR0 := Aside0.mk hr0
  have HC0 := Aside0.mk hc0
  clear hr0 hc0
  have HR1 := Aside0.mk hr1
  have HC1 := Aside0.mk hc1
  clear hr1 hc1
  have H : (if (l0.length : Int) = (l1.length : Int) then (trammellaw0_SameOps.l0 k l0 l1 0) else (some false)) = some r := h
  clear h
  by_cases c3 : (l0.length : Int) = (l1.length : Int)
  · rw [if_pos c3] at H
    have c3b0 : ((l0.length : Int) == (l1.length : Int)) = true := beq_iff_eq.mpr c3
    have c3b1 : ((l0.length : Int) != (l1.length : Int)) = false := bne_eq_false_iff_eq.mpr c3
    have c3b2 : (l0.length == l1.length) = true := by first | simpa using c3 | (simp at c3 ⊢; omega)
    clear c3
    have H' := Aside0.mk H
    clear H
    go_enter Tryd.func76, Tryd.ntmps76
    go_wp2
    repeat (go_quiet (fail); try go_wp2)
    go_loopg [5] k (fun kq v5 w' => ∃ (x5_1 : Int), v5 = .int .i64 x5_1 ∧ Aside0 (trammellaw0_SameOps.l0 kq l0 l1 x5_1 = some r) ∧ Aside0 (kq ≤ k) ∧ Drawn0 w w')
    case atStart => exact ⟨(0), (by first | rfl | (simp; done) | (simp [*]; done)), H', ⟨Nat.le_refl _⟩, by repeat (first | exact Drawn0.refl _ | apply Drawn0.step)⟩
    case round =>
      clear H'
      try clear c1
      try clear p2
      try clear c3
      try clear c3b0
      try clear c3b1
      try clear c3b2
      obtain ⟨x5_1, rfl, HA, HK1, ⟨m1, rfl⟩⟩ := hrel
      cases gk with
      | zero => exact absurd HA.out (by simp [trammellaw0_SameOps.l0])
      | succ k1 =>
        have H := HA.out
        clear HA
        simp only [trammellaw0_SameOps.l0] at H
        by_cases c4 : x5_1 < (l0.length : Int)
        · rw [if_pos c4] at H
          have c4b0 : decide (x5_1 < (l0.length : Int)) = true := decide_eq_true c4
          clear c4
          by_cases c5 : 0 ≤ x5_1
          · rw [if_pos c5] at H
            have c5b0 : decide (0 ≤ x5_1) = true := decide_eq_true c5
            clear c5
            by_cases c6 : x5_1 < (l1.length : Int)
            · rw [if_pos c6] at H
              have c6b0 : decide (x5_1 < (l1.length : Int)) = true := decide_eq_true c6
              clear c6
              by_cases c7 : (!((((rd_T48 l0 x5_1).f0).toList) == (((rd_T48 l1 x5_1).f0).toList)) || (!(((rd_T48 l0 x5_1).f1) == ((rd_T48 l1 x5_1).f1)) || (!(((rd_T48 l0 x5_1).f2) == ((rd_T48 l1 x5_1).f2))))) = true
              · rw [if_pos c7] at H
                have c7b0 : (!((((rd_T48 l0 x5_1).f0).toList) == (((rd_T48 l1 x5_1).f0).toList)) || (!(((rd_T48 l0 x5_1).f1) == ((rd_T48 l1 x5_1).f1)) || (!(((rd_T48 l0 x5_1).f2) == ((rd_T48 l1 x5_1).f2))))) = true := c7
                clear c7
                obtain rfl := Option.some.inj H
                have p255 : 0 ≤ (x5_1 : Int) := of_decide_eq_true (by first | (with_reducible assumption) | assumption)
                have q255 : x5_1 < (l0.length : Int) := of_decide_eq_true (by first | (with_reducible assumption) | assumption)
                obtain ⟨ad255, e255, hx255_0, hx255_1, hx255_2⟩ := at_T48 HR0.out x5_1 p255 q255
                cases e255
                replace p255 := eq_true p255
                replace q255 := eq_true q255
                have p256 : 0 ≤ (x5_1 : Int) := of_decide_eq_true (by first | (with_reducible assumption) | assumption)
                have q256 : x5_1 < (l1.length : Int) := of_decide_eq_true (by first | (with_reducible assumption) | assumption)
                obtain ⟨ad256, e256, hx256_0, hx256_1, hx256_2⟩ := at_T48 HR1.out x5_1 p256 q256
                cases e256
                replace p256 := eq_true p256
                replace q256 := eq_true q256
                go_wp2
                repeat (go_quiet (fail); try go_wp2)
                go_ret
                exact ⟨by first | rfl | (simp; done) | (simp [*]; done), by repeat (first | exact Drawn0.refl _ | apply Drawn0.step)⟩
              · rw [if_neg c7] at H
                have c7b0 : (!((((rd_T48 l0 x5_1).f0).toList) == (((rd_T48 l1 x5_1).f0).toList)) || (!(((rd_T48 l0 x5_1).f1) == ((rd_T48 l1 x5_1).f1)) || (!(((rd_T48 l0 x5_1).f2) == ((rd_T48 l1 x5_1).f2))))) = false := by simpa using c7
                clear c7
                have H' := Aside0.mk H
                clear H
                have p255 : 0 ≤ (x5_1 : Int) := of_decide_eq_true (by first | (with_reducible assumption) | assumption)
                have q255 : x5_1 < (l0.length : Int) := of_decide_eq_true (by first | (with_reducible assumption) | assumption)
                obtain ⟨ad255, e255, hx255_0, hx255_1, hx255_2⟩ := at_T48 HR0.out x5_1 p255 q255
                cases e255
                replace p255 := eq_true p255
                replace q255 := eq_true q255
                have p256 : 0 ≤ (x5_1 : Int) := of_decide_eq_true (by first | (with_reducible assumption) | assumption)
                have q256 : x5_1 < (l1.length : Int) := of_decide_eq_true (by first | (with_reducible assumption) | assumption)
                obtain ⟨ad256, e256, hx256_0, hx256_1, hx256_2⟩ := at_T48 HR1.out x5_1 p256 q256
                cases e256
                replace p256 := eq_true p256
                replace q256 := eq_true q256
                go_wp2
                repeat (go_quiet (fail); try go_wp2)
                go_roundg k1
                case measure => have := HK1.out; omega
                case rel => exact ⟨(wrap64 (x5_1 + 1)), (by first | rfl | (simp; done) | (simp [*]; done)), H', ⟨by have := HK1.out; omega⟩, by repeat (first | exact Drawn0.refl _ | apply Drawn0.step)⟩
            · rw [if_neg c6] at H
              exact absurd H (by simp)
          · rw [if_neg c5] at H
            exact absurd H (by simp)
        · rw [if_neg c4] at H
          have c4b0 : decide (x5_1 < (l0.length : Int)) = false := decide_eq_false c4
          clear c4
          obtain rfl := Option.some.inj H
          go_wp2
          repeat (go_quiet (fail); try go_wp2)
          go_ret
          exact ⟨by first | rfl | (simp; done) | (simp [*]; done), by repeat (first | exact Drawn0.refl _ | apply Drawn0.step)⟩
  · rw [if_neg c3] at H
    have c3b0 : ((l0.length : Int) == (l1.length : Int)) = false := beq_eq_false_iff_ne.mpr c3
    have c3b1 : ((l0.length : Int) != (l1.length : Int)) = true := bne_iff_ne.mpr c3
    have c3b2 : (l0.length == l1.length) = false := by first | simpa using c3 | (simp at c3 ⊢; omega)
    obtain rfl := Option.some.inj H
    go_enter Tryd.func76, Tryd.ntmps76
    go_wp2
    repeat (go_quiet (fail); try go_wp2)
    go_ret
    exact ⟨by first | rfl | (simp; done) | (simp [*]; done), by repeat (first | exact Drawn0.refl _ | apply Drawn0.step)⟩
end Go.Proofs.YtnogfhhfklkbiaaDoor.H

namespace Go.Proofs.YtnogfhhfklkbiaaDoor.H
open Go.RowKit Go.Proofs.YtnogfhhfklkbiaaDoorW.PrintWords Go.Proofs.YtnogfhhfklkbiaaDoorW.PrintLast Go.Proofs.YtnogfhhfklkbiaaDoorW.PrintMore
attribute [local go_sem] max2_int min2_int max_two min_two max_three min_three max_four min_four
set_option linter.unusedVariables false
set_option linter.unusedSimpArgs false
attribute [local go_sem high] eqA45
attribute [local go_sem high] eqA48
theorem cut_cap {P : Program} (t e : TypeId) (kh : IntKind) {i : TypeInfo} (ht : P.underlying t = some (.slice e)) (hi : P.info? e = some i) (A : Option Addr) (n c : Nat) (j : Int) (h0 : 0 ≤ j) (hm : j ≤ c) :
    ∀ W : World, (Instr.slice t (.slice A n c) none (some (.int kh j)) none).run P W = .ok (.slice A j.toNat c) W := by
  intro W
  have hel : P.elem t = e := by simp [Program.elem, ht]
  have hu : P.underlying t = some (.slice (P.elem t)) := by rw [hel]; exact ht
  have ha : (A.map fun x => x.add 0) = A := by cases A <;> simp [Addr.add]
  rw [run_slice_h W t A n c hu kh j h0 hm, hel]
  simp [sizeOf, typeInfo, hi, sliced, Result.andThen, ha]
def trammellaw0_KeptNodes.fL (k : Nat) (lf : List (S45)) (l0 : List (S45)) (l1 : List (S45)) : Option (Bool) := if 0 ≤ (wrap64 ((l0.length : Int) + 2)) then (if (wrap64 ((l0.length : Int) + 2)) ≤ (lf.length : Int) then ((some (lf.take ((wrap64 ((l0.length : Int) + 2)) : Int).toNat : List (S45))).bind fun y264 => ((trammellaw0_SameNodes.f k l0 l1).bind fun t268 => (if t268 = true then (if 0 ≤ (l1.length : Int) then (if (l1.length : Int) < (y264.length : Int) then (if (((rd_T45 y264 (l1.length : Int)).f0) == 0 && (((rd_T45 y264 (l1.length : Int)).f1) == 0 && (((rd_T45 y264 (l1.length : Int)).f2) == 0 && (((rd_T45 y264 (l1.length : Int)).f3) == 0 && (((rd_T45 y264 (l1.length : Int)).f4) == 0 && ((((rd_T45 y264 (l1.length : Int)).f5).toList) == ([] : List UInt8) && ((((rd_T45 y264 (l1.length : Int)).f6).toList) == ([] : List UInt8) && ((((rd_T45 y264 (l1.length : Int)).f7).toList) == ([] : List UInt8) && ((((rd_T45 y264 (l1.length : Int)).f8).toList) == ([] : List UInt8) && (((rd_T45 y264 (l1.length : Int)).f9) == 77777)))))))))) = true then (if 0 ≤ (wrap64 ((l1.length : Int) + 1)) then (if (wrap64 ((l1.length : Int) + 1)) < (y264.length : Int) then (some (((rd_T45 y264 (wrap64 ((l1.length : Int) + 1))).f0) == 0 && (((rd_T45 y264 (wrap64 ((l1.length : Int) + 1))).f1) == 0 && (((rd_T45 y264 (wrap64 ((l1.length : Int) + 1))).f2) == 0 && (((rd_T45 y264 (wrap64 ((l1.length : Int) + 1))).f3) == 0 && (((rd_T45 y264 (wrap64 ((l1.length : Int) + 1))).f4) == 0 && ((((rd_T45 y264 (wrap64 ((l1.length : Int) + 1))).f5).toList) == ([] : List UInt8) && ((((rd_T45 y264 (wrap64 ((l1.length : Int) + 1))).f6).toList) == ([] : List UInt8) && ((((rd_T45 y264 (wrap64 ((l1.length : Int) + 1))).f7).toList) == ([] : List UInt8) && ((((rd_T45 y264 (wrap64 ((l1.length : Int) + 1))).f8).toList) == ([] : List UInt8) && (((rd_T45 y264 (wrap64 ((l1.length : Int) + 1))).f9) == 77777))))))))))) else (none)) else (none)) else (some false)) else (none)) else (none)) else (some false)))) else (none)) else (none)
set_option maxHeartbeats 8000000 in
set_option maxRecDepth 100000 in
theorem trammellaw0_KeptNodes.callsL (k : Nat) (lf : List (S45)) (A0 : Option Addr) (c0 : Nat) (l0 : List (S45)) (A1 : Option Addr) (c1 : Nat) (l1 : List (S45)) (r : Bool) (w : World) (hr0 : Kd.C k45 w A0 l0.length l0) (hc0 : l0.length ≤ c0) (hr1 : Kd.C k45 w A1 l1.length l1) (hc1 : l1.length ≤ c1) (htrue : r = true) (hrf : Kd.C k45 w A0 lf.length lf) (hcf : lf.length ≤ c0) (h : trammellaw0_KeptNodes.fL k lf l0 l1 = some r) :
    Calls Tryd.prog 53 #[.slice A0 l0.length c0, .slice A1 l1.length c1] w fun e w' => e = .returned (.bool r) ∧ Drawn0 w w' := by
  have hu45 := Tryd.underlying45
  have HT_ := Aside0.mk htrue
  clear htrue
  have HRF := Aside0.mk hrf
  have HCF := Aside0.mk hcf
  clear hrf hcf
  have HR0 := Aside0.mk hr0
  have HC0 := Aside0.mk hc0
  clear hr0 hc0
  have HR1 := Aside0.mk hr1
  have HC1 := Aside0.mk hc1
  clear hr1 hc1
  have H : (if 0 ≤ (wrap64 ((l0.length : Int) + 2)) then (if (wrap64 ((l0.length : Int) + 2)) ≤ (lf.length : Int) then ((some (lf.take ((wrap64 ((l0.length : Int) + 2)) : Int).toNat : List (S45))).bind fun y264 => ((trammellaw0_SameNodes.f k l0 l1).bind fun t268 => (if t268 = true then (if 0 ≤ (l1.length : Int) then (if (l1.length : Int) < (y264.length : Int) then (if (((rd_T45 y264 (l1.length : Int)).f0) == 0 && (((rd_T45 y264 (l1.length : Int)).f1) == 0 && (((rd_T45 y264 (l1.length : Int)).f2) == 0 && (((rd_T45 y264 (l1.length : Int)).f3) == 0 && (((rd_T45 y264 (l1.length : Int)).f4) == 0 && ((((rd_T45 y264 (l1.length : Int)).f5).toList) == ([] : List UInt8) && ((((rd_T45 y264 (l1.length : Int)).f6).toList) == ([] : List UInt8) && ((((rd_T45 y264 (l1.length : Int)).f7).toList) == ([] : List UInt8) && ((((rd_T45 y264 (l1.length : Int)).f8).toList) == ([] : List UInt8) && (((rd_T45 y264 (l1.length : Int)).f9) == 77777)))))))))) = true then (if 0 ≤ (wrap64 ((l1.length : Int) + 1)) then (if (wrap64 ((l1.length : Int) + 1)) < (y264.length : Int) then (some (((rd_T45 y264 (wrap64 ((l1.length : Int) + 1))).f0) == 0 && (((rd_T45 y264 (wrap64 ((l1.length : Int) + 1))).f1) == 0 && (((rd_T45 y264 (wrap64 ((l1.length : Int) + 1))).f2) == 0 && (((rd_T45 y264 (wrap64 ((l1.length : Int) + 1))).f3) == 0 && (((rd_T45 y264 (wrap64 ((l1.length : Int) + 1))).f4) == 0 && ((((rd_T45 y264 (wrap64 ((l1.length : Int) + 1))).f5).toList) == ([] : List UInt8) && ((((rd_T45 y264 (wrap64 ((l1.length : Int) + 1))).f6).toList) == ([] : List UInt8) && ((((rd_T45 y264 (wrap64 ((l1.length : Int) + 1))).f7).toList) == ([] : List UInt8) && ((((rd_T45 y264 (wrap64 ((l1.length : Int) + 1))).f8).toList) == ([] : List UInt8) && (((rd_T45 y264 (wrap64 ((l1.length : Int) + 1))).f9) == 77777))))))))))) else (none)) else (none)) else (some false)) else (none)) else (none)) else (some false)))) else (none)) else (none)) = some r := h
  clear h
  obtain ⟨ji3, hji3⟩ : ∃ j_ : Int, (wrap64 ((l0.length : Int) + 2)) = j_ := ⟨_, rfl⟩
  replace H : (if 0 ≤ (ji3) then (if (ji3) ≤ (lf.length : Int) then ((some (lf.take ((ji3) : Int).toNat : List (S45))).bind fun y264 => ((trammellaw0_SameNodes.f k l0 l1).bind fun t268 => (if t268 = true then (if 0 ≤ (l1.length : Int) then (if (l1.length : Int) < (y264.length : Int) then (if (((rd_T45 y264 (l1.length : Int)).f0) == 0 && (((rd_T45 y264 (l1.length : Int)).f1) == 0 && (((rd_T45 y264 (l1.length : Int)).f2) == 0 && (((rd_T45 y264 (l1.length : Int)).f3) == 0 && (((rd_T45 y264 (l1.length : Int)).f4) == 0 && ((((rd_T45 y264 (l1.length : Int)).f5).toList) == ([] : List UInt8) && ((((rd_T45 y264 (l1.length : Int)).f6).toList) == ([] : List UInt8) && ((((rd_T45 y264 (l1.length : Int)).f7).toList) == ([] : List UInt8) && ((((rd_T45 y264 (l1.length : Int)).f8).toList) == ([] : List UInt8) && (((rd_T45 y264 (l1.length : Int)).f9) == 77777)))))))))) = true then (if 0 ≤ (wrap64 ((l1.length : Int) + 1)) then (if (wrap64 ((l1.length : Int) + 1)) < (y264.length : Int) then (some (((rd_T45 y264 (wrap64 ((l1.length : Int) + 1))).f0) == 0 && (((rd_T45 y264 (wrap64 ((l1.length : Int) + 1))).f1) == 0 && (((rd_T45 y264 (wrap64 ((l1.length : Int) + 1))).f2) == 0 && (((rd_T45 y264 (wrap64 ((l1.length : Int) + 1))).f3) == 0 && (((rd_T45 y264 (wrap64 ((l1.length : Int) + 1))).f4) == 0 && ((((rd_T45 y264 (wrap64 ((l1.length : Int) + 1))).f5).toList) == ([] : List UInt8) && ((((rd_T45 y264 (wrap64 ((l1.length : Int) + 1))).f6).toList) == ([] : List UInt8) && ((((rd_T45 y264 (wrap64 ((l1.length : Int) + 1))).f7).toList) == ([] : List UInt8) && ((((rd_T45 y264 (wrap64 ((l1.length : Int) + 1))).f8).toList) == ([] : List UInt8) && (((rd_T45 y264 (wrap64 ((l1.length : Int) + 1))).f9) == 77777))))))))))) else (none)) else (none)) else (some false)) else (none)) else (none)) else (some false)))) else (none)) else (none)) = some r := by first | (rw [hji3] at H; exact H) | (simp only [hji3] at H ⊢; exact H)
  have hji3w : (IntKind.i64.wrap ((l0.length : Int) + 2)) = ji3 := (i64_w _).trans hji3
  by_cases c4 : 0 ≤ (ji3)
  · rw [if_pos c4] at H
    have c4b0 := eq_true c4
    have c4b1 : decide (0 ≤ (ji3)) = true := decide_eq_true c4
    clear c4
    by_cases c5 : (ji3) ≤ (lf.length : Int)
    · rw [if_pos c5] at H
      have c5b0 := eq_true c5
      have c5b1 : decide ((ji3) ≤ (lf.length : Int)) = true := decide_eq_true c5
      clear c5
      obtain ⟨y264, hy264⟩ : ∃ y_ : List (S45), y_ = (lf.take ((ji3) : Int).toNat) := ⟨_, rfl⟩
      replace H : ((trammellaw0_SameNodes.f k l0 l1).bind fun t268 => (if t268 = true then (if 0 ≤ (l1.length : Int) then (if (l1.length : Int) < (y264.length : Int) then (if (((rd_T45 y264 (l1.length : Int)).f0) == 0 && (((rd_T45 y264 (l1.length : Int)).f1) == 0 && (((rd_T45 y264 (l1.length : Int)).f2) == 0 && (((rd_T45 y264 (l1.length : Int)).f3) == 0 && (((rd_T45 y264 (l1.length : Int)).f4) == 0 && ((((rd_T45 y264 (l1.length : Int)).f5).toList) == ([] : List UInt8) && ((((rd_T45 y264 (l1.length : Int)).f6).toList) == ([] : List UInt8) && ((((rd_T45 y264 (l1.length : Int)).f7).toList) == ([] : List UInt8) && ((((rd_T45 y264 (l1.length : Int)).f8).toList) == ([] : List UInt8) && (((rd_T45 y264 (l1.length : Int)).f9) == 77777)))))))))) = true then (if 0 ≤ (wrap64 ((l1.length : Int) + 1)) then (if (wrap64 ((l1.length : Int) + 1)) < (y264.length : Int) then (some (((rd_T45 y264 (wrap64 ((l1.length : Int) + 1))).f0) == 0 && (((rd_T45 y264 (wrap64 ((l1.length : Int) + 1))).f1) == 0 && (((rd_T45 y264 (wrap64 ((l1.length : Int) + 1))).f2) == 0 && (((rd_T45 y264 (wrap64 ((l1.length : Int) + 1))).f3) == 0 && (((rd_T45 y264 (wrap64 ((l1.length : Int) + 1))).f4) == 0 && ((((rd_T45 y264 (wrap64 ((l1.length : Int) + 1))).f5).toList) == ([] : List UInt8) && ((((rd_T45 y264 (wrap64 ((l1.length : Int) + 1))).f6).toList) == ([] : List UInt8) && ((((rd_T45 y264 (wrap64 ((l1.length : Int) + 1))).f7).toList) == ([] : List UInt8) && ((((rd_T45 y264 (wrap64 ((l1.length : Int) + 1))).f8).toList) == ([] : List UInt8) && (((rd_T45 y264 (wrap64 ((l1.length : Int) + 1))).f9) == 77777))))))))))) else (none)) else (none)) else (some false)) else (none)) else (none)) else (some false))) = some r := by first | (rw [hy264]; with_reducible exact H) | (have H2_ := (Option.bind_some _ _).symm.trans H; rw [hy264]; with_reducible exact H2_) | (have H2_ := (Option.bind_some _ _).symm.trans H; with_reducible exact H2_) | with_reducible exact H | (rw [hy264]; exact H) | exact H
      have Ny264 := Aside0.mk hy264
      clear hy264
      replace H := Option.bind_eq_some_iff.mp H
      obtain ⟨t268, A60, H⟩ := H
      replace H : (if t268 = true then (if 0 ≤ (l1.length : Int) then (if (l1.length : Int) < (y264.length : Int) then (if (((rd_T45 y264 (l1.length : Int)).f0) == 0 && (((rd_T45 y264 (l1.length : Int)).f1) == 0 && (((rd_T45 y264 (l1.length : Int)).f2) == 0 && (((rd_T45 y264 (l1.length : Int)).f3) == 0 && (((rd_T45 y264 (l1.length : Int)).f4) == 0 && ((((rd_T45 y264 (l1.length : Int)).f5).toList) == ([] : List UInt8) && ((((rd_T45 y264 (l1.length : Int)).f6).toList) == ([] : List UInt8) && ((((rd_T45 y264 (l1.length : Int)).f7).toList) == ([] : List UInt8) && ((((rd_T45 y264 (l1.length : Int)).f8).toList) == ([] : List UInt8) && (((rd_T45 y264 (l1.length : Int)).f9) == 77777)))))))))) = true then (if 0 ≤ (wrap64 ((l1.length : Int) + 1)) then (if (wrap64 ((l1.length : Int) + 1)) < (y264.length : Int) then (some (((rd_T45 y264 (wrap64 ((l1.length : Int) + 1))).f0) == 0 && (((rd_T45 y264 (wrap64 ((l1.length : Int) + 1))).f1) == 0 && (((rd_T45 y264 (wrap64 ((l1.length : Int) + 1))).f2) == 0 && (((rd_T45 y264 (wrap64 ((l1.length : Int) + 1))).f3) == 0 && (((rd_T45 y264 (wrap64 ((l1.length : Int) + 1))).f4) == 0 && ((((rd_T45 y264 (wrap64 ((l1.length : Int) + 1))).f5).toList) == ([] : List UInt8) && ((((rd_T45 y264 (wrap64 ((l1.length : Int) + 1))).f6).toList) == ([] : List UInt8) && ((((rd_T45 y264 (wrap64 ((l1.length : Int) + 1))).f7).toList) == ([] : List UInt8) && ((((rd_T45 y264 (wrap64 ((l1.length : Int) + 1))).f8).toList) == ([] : List UInt8) && (((rd_T45 y264 (wrap64 ((l1.length : Int) + 1))).f9) == 77777))))))))))) else (none)) else (none)) else (some false)) else (none)) else (none)) else (some false)) = some r := H
      have A6 := Aside0.mk A60
      clear A60
      by_cases c7 : t268 = true
      · subst c7
        have H1 : (if 0 ≤ (l1.length : Int) then (if (l1.length : Int) < (y264.length : Int) then (if (((rd_T45 y264 (l1.length : Int)).f0) == 0 && (((rd_T45 y264 (l1.length : Int)).f1) == 0 && (((rd_T45 y264 (l1.length : Int)).f2) == 0 && (((rd_T45 y264 (l1.length : Int)).f3) == 0 && (((rd_T45 y264 (l1.length : Int)).f4) == 0 && ((((rd_T45 y264 (l1.length : Int)).f5).toList) == ([] : List UInt8) && ((((rd_T45 y264 (l1.length : Int)).f6).toList) == ([] : List UInt8) && ((((rd_T45 y264 (l1.length : Int)).f7).toList) == ([] : List UInt8) && ((((rd_T45 y264 (l1.length : Int)).f8).toList) == ([] : List UInt8) && (((rd_T45 y264 (l1.length : Int)).f9) == 77777)))))))))) = true then (if 0 ≤ (wrap64 ((l1.length : Int) + 1)) then (if (wrap64 ((l1.length : Int) + 1)) < (y264.length : Int) then (some (((rd_T45 y264 (wrap64 ((l1.length : Int) + 1))).f0) == 0 && (((rd_T45 y264 (wrap64 ((l1.length : Int) + 1))).f1) == 0 && (((rd_T45 y264 (wrap64 ((l1.length : Int) + 1))).f2) == 0 && (((rd_T45 y264 (wrap64 ((l1.length : Int) + 1))).f3) == 0 && (((rd_T45 y264 (wrap64 ((l1.length : Int) + 1))).f4) == 0 && ((((rd_T45 y264 (wrap64 ((l1.length : Int) + 1))).f5).toList) == ([] : List UInt8) && ((((rd_T45 y264 (wrap64 ((l1.length : Int) + 1))).f6).toList) == ([] : List UInt8) && ((((rd_T45 y264 (wrap64 ((l1.length : Int) + 1))).f7).toList) == ([] : List UInt8) && ((((rd_T45 y264 (wrap64 ((l1.length : Int) + 1))).f8).toList) == ([] : List UInt8) && (((rd_T45 y264 (wrap64 ((l1.length : Int) + 1))).f9) == 77777))))))))))) else (none)) else (none)) else (some false)) else (none)) else (none)) = some r := by rw [if_pos rfl] at H; exact H
        clear H
        have H := H1
        clear H1
        by_cases c8 : 0 ≤ (l1.length : Int)
        · rw [if_pos c8] at H
          have c8b0 : decide (0 ≤ (l1.length : Int)) = true := decide_eq_true c8
          have c8b1 : decide (0 ≤ l1.length) = true := decide_eq_true (by omega)
          clear c8
          by_cases c9 : (l1.length : Int) < (y264.length : Int)
          · rw [if_pos c9] at H
            have c9b0 : decide ((l1.length : Int) < (y264.length : Int)) = true := decide_eq_true c9
            have c9b1 : decide (l1.length < y264.length) = true := decide_eq_true (Int.ofNat_lt.mp c9)
            clear c9
            by_cases c10 : (((rd_T45 y264 (l1.length : Int)).f0) == 0 && (((rd_T45 y264 (l1.length : Int)).f1) == 0 && (((rd_T45 y264 (l1.length : Int)).f2) == 0 && (((rd_T45 y264 (l1.length : Int)).f3) == 0 && (((rd_T45 y264 (l1.length : Int)).f4) == 0 && ((((rd_T45 y264 (l1.length : Int)).f5).toList) == ([] : List UInt8) && ((((rd_T45 y264 (l1.length : Int)).f6).toList) == ([] : List UInt8) && ((((rd_T45 y264 (l1.length : Int)).f7).toList) == ([] : List UInt8) && ((((rd_T45 y264 (l1.length : Int)).f8).toList) == ([] : List UInt8) && (((rd_T45 y264 (l1.length : Int)).f9) == 77777)))))))))) = true
            · rw [if_pos c10] at H
              have c10b0 : (((rd_T45 y264 (l1.length : Int)).f0) == 0 && (((rd_T45 y264 (l1.length : Int)).f1) == 0 && (((rd_T45 y264 (l1.length : Int)).f2) == 0 && (((rd_T45 y264 (l1.length : Int)).f3) == 0 && (((rd_T45 y264 (l1.length : Int)).f4) == 0 && ((((rd_T45 y264 (l1.length : Int)).f5).toList) == ([] : List UInt8) && ((((rd_T45 y264 (l1.length : Int)).f6).toList) == ([] : List UInt8) && ((((rd_T45 y264 (l1.length : Int)).f7).toList) == ([] : List UInt8) && ((((rd_T45 y264 (l1.length : Int)).f8).toList) == ([] : List UInt8) && (((rd_T45 y264 (l1.length : Int)).f9) == 77777)))))))))) = true := c10
              (try (have c10b1 : decide (((rd_T45 y264 (l1.length : Int)).f0) = 0 && (((rd_T45 y264 (l1.length : Int)).f1) == 0 && (((rd_T45 y264 (l1.length : Int)).f2) == 0 && (((rd_T45 y264 (l1.length : Int)).f3) == 0 && (((rd_T45 y264 (l1.length : Int)).f4) == 0 && ((((rd_T45 y264 (l1.length : Int)).f5).toList) == ([] : List UInt8) && ((((rd_T45 y264 (l1.length : Int)).f6).toList) == ([] : List UInt8) && ((((rd_T45 y264 (l1.length : Int)).f7).toList) == ([] : List UInt8) && ((((rd_T45 y264 (l1.length : Int)).f8).toList) == ([] : List UInt8) && (((rd_T45 y264 (l1.length : Int)).f9) == 77777)))))))))) = true := by simpa using c10))
              (try (have c10b2 : (((rd_T45 y264 (l1.length : Int)).f0) == 0 && (((rd_T45 y264 (l1.length : Int)).f1) == 0 && (((rd_T45 y264 (l1.length : Int)).f2) == 0 && (((rd_T45 y264 (l1.length : Int)).f3) == 0 && (((rd_T45 y264 (l1.length : Int)).f4) == 0 && ((((rd_T45 y264 (l1.length : Int)).f5).toList) == ([] : List UInt8) && ((((rd_T45 y264 (l1.length : Int)).f6).toList) == ([] : List UInt8) && ((((rd_T45 y264 (l1.length : Int)).f7).toList) == ([] : List UInt8) && ((((rd_T45 y264 (l1.length : Int)).f8).toList) == ([] : List UInt8) && (((rd_T45 y264 (l1.length : Int)).f9) == 77777)))))))))) = true := by simpa using c10))
              clear c10
              obtain ⟨ji11, hji11⟩ : ∃ j_ : Int, (wrap64 ((l1.length : Int) + 1)) = j_ := ⟨_, rfl⟩
              replace H : (if 0 ≤ (ji11) then (if (ji11) < (y264.length : Int) then (some (((rd_T45 y264 (ji11)).f0) == 0 && (((rd_T45 y264 (ji11)).f1) == 0 && (((rd_T45 y264 (ji11)).f2) == 0 && (((rd_T45 y264 (ji11)).f3) == 0 && (((rd_T45 y264 (ji11)).f4) == 0 && ((((rd_T45 y264 (ji11)).f5).toList) == ([] : List UInt8) && ((((rd_T45 y264 (ji11)).f6).toList) == ([] : List UInt8) && ((((rd_T45 y264 (ji11)).f7).toList) == ([] : List UInt8) && ((((rd_T45 y264 (ji11)).f8).toList) == ([] : List UInt8) && (((rd_T45 y264 (ji11)).f9) == 77777))))))))))) else (none)) else (none)) = some r := by first | (rw [hji11] at H; exact H) | (simp only [hji11] at H ⊢; exact H)
              (try rw [hji11] at A6)
              have hji11w : (IntKind.i64.wrap ((l1.length : Int) + 1)) = ji11 := (i64_w _).trans hji11
              by_cases c12 : 0 ≤ (ji11)
              · rw [if_pos c12] at H
                have c12b0 : decide (0 ≤ (ji11)) = true := decide_eq_true c12
                clear c12
                by_cases c13 : (ji11) < (y264.length : Int)
                · rw [if_pos c13] at H
                  have c13b0 : decide ((ji11) < (y264.length : Int)) = true := decide_eq_true c13
                  clear c13
                  obtain rfl := Option.some.inj H
                  have q14 : ((ji3) : Int) ≤ ((lf.length : Int) : Int) := of_decide_eq_true (by first | (with_reducible assumption) | assumption)
                  obtain ⟨i014, hi014, _, hsz14, _⟩ := info_parts info45
                  have hroom14 : lf.length ≤ c0 := HCF.out
                  have hC14 : Kd.C k45 _ A0 lf.length lf := HRF.out
                  have hcut14 := cut_cap (P := Tryd.prog) 23 45 .i64 Tryd.underlying23 hi014 A0 l0.length c0 (ji3) (of_decide_eq_true (by first | (with_reducible assumption) | assumption)) (by omega)
                  have hr14 := Kd.C_take (m := ((ji3) : Int).toNat) hC14 (by omega)
                  have hy14 : y264.length = ((ji3) : Int).toNat := (by rw [Ny264.out, List.length_take]; omega)
                  rw [← Ny264.out] at hr14
                  rw [← hy14] at hcut14
                  have HR267 := Aside0.mk hr14
                  have HC267 := Aside0.mk (show y264.length ≤ c0 from by omega)
                  clear hr14 hC14 hroom14 hi014 hsz14
                  have KY14 := Aside0.mk hy14
                  clear hy14
                  replace q14 := eq_true q14
                  go_enter Tryd.func53, Tryd.ntmps53
                  go_wp2_with (first | ((with_reducible refine gate_callee (f := 19) rfl ?_); refine goesL_ (some 13) rfl rfl Tryd.func19 (by kernel_rfl) rfl #[.slice A0 l0.length c0, .slice A1 l1.length c1] rfl (by (try simp only [List.map_toArray, List.map_cons, List.map_nil]); first | done | rfl | (simp only [List.length_drop, List.length_take]; rfl)) ?_; (with_reducible refine (trammellaw0_SameNodes.calls k _ _ l0 _ _ l1 true _ ?side1 ?side2 ?side3 ?side4 A6.out).mono ?_); (case side1 => repeat (first | exact HR0.out | (with_reducible refine Kd.C_alloc ?_ _) | (with_reducible refine Kd.C_drewN ?_ _) | (with_reducible refine Kd.C_drew ?_))); (case side2 => exact HC0.out); (case side3 => repeat (first | exact HR1.out | (with_reducible refine Kd.C_alloc ?_ _) | (with_reducible refine Kd.C_drewN ?_ _) | (with_reducible refine Kd.C_drew ?_))); (case side4 => exact HC1.out); rintro e w' ⟨rfl, ⟨nd, rfl⟩⟩; refine ⟨_, rfl, ?_⟩; have p269 : 0 ≤ ((l1.length : Int) : Int) := of_decide_eq_true (by first | (with_reducible assumption) | assumption); have q269 : (l1.length : Int) < (y264.length : Int) := of_decide_eq_true (by first | (with_reducible assumption) | assumption); obtain ⟨ad269, e269, hx269_0, hx269_1, hx269_2, hx269_3, hx269_4, hx269_5, hx269_6, hx269_7, hx269_8, hx269_9⟩ := at_T45 HR267.out (l1.length : Int) p269 q269; cases e269; (try simp only [Go.IntWalk.toNatUp] at hx269_0); (try simp only [Go.IntWalk.toNatUp] at hx269_1); (try simp only [Go.IntWalk.toNatUp] at hx269_2); (try simp only [Go.IntWalk.toNatUp] at hx269_3); (try simp only [Go.IntWalk.toNatUp] at hx269_4); (try simp only [Go.IntWalk.toNatUp] at hx269_5); (try simp only [Go.IntWalk.toNatUp] at hx269_6); (try simp only [Go.IntWalk.toNatUp] at hx269_7); (try simp only [Go.IntWalk.toNatUp] at hx269_8); (try simp only [Go.IntWalk.toNatUp] at hx269_9); replace p269 := eq_true p269; replace q269 := eq_true q269; have p270 : 0 ≤ ((ji11) : Int) := of_decide_eq_true (by first | (with_reducible assumption) | assumption); have q270 : (ji11) < (y264.length : Int) := of_decide_eq_true (by first | (with_reducible assumption) | assumption); obtain ⟨ad270, e270, hx270_0, hx270_1, hx270_2, hx270_3, hx270_4, hx270_5, hx270_6, hx270_7, hx270_8, hx270_9⟩ := at_T45 HR267.out (ji11) p270 q270; obtain rfl : ad269 = ad270 := (by injection e270); replace p270 := eq_true p270; replace q270 := eq_true q270))
                  all_goals
                    go_ret
                    exact ⟨by first | rfl | (exfalso; simp only [Bool.and_eq_true, beq_iff_eq] at c10b0; first | contradiction | (rename_i hne_ _ _; exact hne_ c10b0) | grind) | rfl | (simp; done) | (simp only [← hji3, ← hji11] <;> (first | rfl | simp)) | (simp [*]; done) | (have ht_ := HT_.out; simp at ht_; simp_all; done) | (simp_all; done), by repeat (first | exact Drawn0.refl _ | apply Drawn0.step)⟩
                · rw [if_neg c13] at H
                  exact absurd H (by simp)
              · rw [if_neg c12] at H
                exact absurd H (by simp)
            · rw [if_neg c10] at H
              have H2_ := Option.some.inj H
              rw [HT_.out] at H2_
              exact absurd H2_ (by decide)
          · rw [if_neg c9] at H
            exact absurd H (by simp)
        · rw [if_neg c8] at H
          exact absurd H (by simp)
      · replace c7 := Bool.eq_false_iff.mpr c7
        subst c7
        have H1 : (some false) = some r := by rw [if_neg (show ¬ (false = true) by decide)] at H; exact H
        clear H
        have H := H1
        clear H1
        obtain rfl := Option.some.inj H
        have q16 : ((ji3) : Int) ≤ ((lf.length : Int) : Int) := of_decide_eq_true (by first | (with_reducible assumption) | assumption)
        obtain ⟨i016, hi016, _, hsz16, _⟩ := info_parts info45
        have hroom16 : lf.length ≤ c0 := HCF.out
        have hC16 : Kd.C k45 _ A0 lf.length lf := HRF.out
        have hcut16 := cut_cap (P := Tryd.prog) 23 45 .i64 Tryd.underlying23 hi016 A0 l0.length c0 (ji3) (of_decide_eq_true (by first | (with_reducible assumption) | assumption)) (by omega)
        have hr16 := Kd.C_take (m := ((ji3) : Int).toNat) hC16 (by omega)
        have hy16 : y264.length = ((ji3) : Int).toNat := (by rw [Ny264.out, List.length_take]; omega)
        rw [← Ny264.out] at hr16
        rw [← hy16] at hcut16
        have HR267 := Aside0.mk hr16
        have HC267 := Aside0.mk (show y264.length ≤ c0 from by omega)
        clear hr16 hC16 hroom16 hi016 hsz16
        have KY16 := Aside0.mk hy16
        clear hy16
        replace q16 := eq_true q16
        go_enter Tryd.func53, Tryd.ntmps53
        go_wp2_with (first | ((with_reducible refine gate_callee (f := 19) rfl ?_); refine goesL_ (some 13) rfl rfl Tryd.func19 (by kernel_rfl) rfl #[.slice A0 l0.length c0, .slice A1 l1.length c1] rfl (by (try simp only [List.map_toArray, List.map_cons, List.map_nil]); first | done | rfl | (simp only [List.length_drop, List.length_take]; rfl)) ?_; (with_reducible refine (trammellaw0_SameNodes.calls k _ _ l0 _ _ l1 false _ ?side1 ?side2 ?side3 ?side4 A6.out).mono ?_); (case side1 => repeat (first | exact HR0.out | (with_reducible refine Kd.C_alloc ?_ _) | (with_reducible refine Kd.C_drewN ?_ _) | (with_reducible refine Kd.C_drew ?_))); (case side2 => exact HC0.out); (case side3 => repeat (first | exact HR1.out | (with_reducible refine Kd.C_alloc ?_ _) | (with_reducible refine Kd.C_drewN ?_ _) | (with_reducible refine Kd.C_drew ?_))); (case side4 => exact HC1.out); rintro e w' ⟨rfl, ⟨nd, rfl⟩⟩; refine ⟨_, rfl, ?_⟩))
        all_goals
          go_ret
          exact ⟨by first | rfl | (exfalso; simp only [Bool.and_eq_true, beq_iff_eq] at c10b0; first | contradiction | (rename_i hne_ _ _; exact hne_ c10b0) | grind) | rfl | (simp; done) | (simp only [← hji3] <;> (first | rfl | simp)) | (simp [*]; done) | (have ht_ := HT_.out; simp at ht_; simp_all; done) | (simp_all; done), by repeat (first | exact Drawn0.refl _ | apply Drawn0.step)⟩
    · rw [if_neg c5] at H
      exact absurd H (by simp)
  · rw [if_neg c4] at H
    exact absurd H (by simp)
def trammellaw0_KeptOps.fL (k : Nat) (lf : List (S48)) (l0 : List (S48)) (l1 : List (S48)) : Option (Bool) := if 0 ≤ (wrap64 ((l0.length : Int) + 2)) then (if (wrap64 ((l0.length : Int) + 2)) ≤ (lf.length : Int) then ((some (lf.take ((wrap64 ((l0.length : Int) + 2)) : Int).toNat : List (S48))).bind fun y257 => ((trammellaw0_SameOps.f k l0 l1).bind fun t261 => (if t261 = true then (if 0 ≤ (l1.length : Int) then (if (l1.length : Int) < (y257.length : Int) then (if ((((rd_T48 y257 (l1.length : Int)).f0).toList) == ([] : List UInt8) && (((rd_T48 y257 (l1.length : Int)).f1) == 0 && (((rd_T48 y257 (l1.length : Int)).f2) == 77777))) = true then (if 0 ≤ (wrap64 ((l1.length : Int) + 1)) then (if (wrap64 ((l1.length : Int) + 1)) < (y257.length : Int) then (some ((((rd_T48 y257 (wrap64 ((l1.length : Int) + 1))).f0).toList) == ([] : List UInt8) && (((rd_T48 y257 (wrap64 ((l1.length : Int) + 1))).f1) == 0 && (((rd_T48 y257 (wrap64 ((l1.length : Int) + 1))).f2) == 77777)))) else (none)) else (none)) else (some false)) else (none)) else (none)) else (some false)))) else (none)) else (none)
set_option maxHeartbeats 8000000 in
set_option maxRecDepth 100000 in
theorem trammellaw0_KeptOps.callsL (k : Nat) (lf : List (S48)) (A0 : Option Addr) (c0 : Nat) (l0 : List (S48)) (A1 : Option Addr) (c1 : Nat) (l1 : List (S48)) (r : Bool) (w : World) (hr0 : Kd.C k48 w A0 l0.length l0) (hc0 : l0.length ≤ c0) (hr1 : Kd.C k48 w A1 l1.length l1) (hc1 : l1.length ≤ c1) (htrue : r = true) (hrf : Kd.C k48 w A0 lf.length lf) (hcf : lf.length ≤ c0) (h : trammellaw0_KeptOps.fL k lf l0 l1 = some r) :
    Calls Tryd.prog 52 #[.slice A0 l0.length c0, .slice A1 l1.length c1] w fun e w' => e = .returned (.bool r) ∧ Drawn0 w w' := by
  have hu48 := Tryd.underlying48
  have HT_ := Aside0.mk htrue
  clear htrue
  have HRF := Aside0.mk hrf
  have HCF := Aside0.mk hcf
  clear hrf hcf
  have HR0 := Aside0.mk hr0
  have HC0 := Aside0.mk hc0
  clear hr0 hc0
  have HR1 := Aside0.mk hr1
  have HC1 := Aside0.mk hc1
  clear hr1 hc1
  have H : (if 0 ≤ (wrap64 ((l0.length : Int) + 2)) then (if (wrap64 ((l0.length : Int) + 2)) ≤ (lf.length : Int) then ((some (lf.take ((wrap64 ((l0.length : Int) + 2)) : Int).toNat : List (S48))).bind fun y257 => ((trammellaw0_SameOps.f k l0 l1).bind fun t261 => (if t261 = true then (if 0 ≤ (l1.length : Int) then (if (l1.length : Int) < (y257.length : Int) then (if ((((rd_T48 y257 (l1.length : Int)).f0).toList) == ([] : List UInt8) && (((rd_T48 y257 (l1.length : Int)).f1) == 0 && (((rd_T48 y257 (l1.length : Int)).f2) == 77777))) = true then (if 0 ≤ (wrap64 ((l1.length : Int) + 1)) then (if (wrap64 ((l1.length : Int) + 1)) < (y257.length : Int) then (some ((((rd_T48 y257 (wrap64 ((l1.length : Int) + 1))).f0).toList) == ([] : List UInt8) && (((rd_T48 y257 (wrap64 ((l1.length : Int) + 1))).f1) == 0 && (((rd_T48 y257 (wrap64 ((l1.length : Int) + 1))).f2) == 77777)))) else (none)) else (none)) else (some false)) else (none)) else (none)) else (some false)))) else (none)) else (none)) = some r := h
  clear h
  obtain ⟨ji3, hji3⟩ : ∃ j_ : Int, (wrap64 ((l0.length : Int) + 2)) = j_ := ⟨_, rfl⟩
  replace H : (if 0 ≤ (ji3) then (if (ji3) ≤ (lf.length : Int) then ((some (lf.take ((ji3) : Int).toNat : List (S48))).bind fun y257 => ((trammellaw0_SameOps.f k l0 l1).bind fun t261 => (if t261 = true then (if 0 ≤ (l1.length : Int) then (if (l1.length : Int) < (y257.length : Int) then (if ((((rd_T48 y257 (l1.length : Int)).f0).toList) == ([] : List UInt8) && (((rd_T48 y257 (l1.length : Int)).f1) == 0 && (((rd_T48 y257 (l1.length : Int)).f2) == 77777))) = true then (if 0 ≤ (wrap64 ((l1.length : Int) + 1)) then (if (wrap64 ((l1.length : Int) + 1)) < (y257.length : Int) then (some ((((rd_T48 y257 (wrap64 ((l1.length : Int) + 1))).f0).toList) == ([] : List UInt8) && (((rd_T48 y257 (wrap64 ((l1.length : Int) + 1))).f1) == 0 && (((rd_T48 y257 (wrap64 ((l1.length : Int) + 1))).f2) == 77777)))) else (none)) else (none)) else (some false)) else (none)) else (none)) else (some false)))) else (none)) else (none)) = some r := by first | (rw [hji3] at H; exact H) | (simp only [hji3] at H ⊢; exact H)
  have hji3w : (IntKind.i64.wrap ((l0.length : Int) + 2)) = ji3 := (i64_w _).trans hji3
  by_cases c4 : 0 ≤ (ji3)
  · rw [if_pos c4] at H
    have c4b0 := eq_true c4
    have c4b1 : decide (0 ≤ (ji3)) = true := decide_eq_true c4
    clear c4
    by_cases c5 : (ji3) ≤ (lf.length : Int)
    · rw [if_pos c5] at H
      have c5b0 := eq_true c5
      have c5b1 : decide ((ji3) ≤ (lf.length : Int)) = true := decide_eq_true c5
      clear c5
      obtain ⟨y257, hy257⟩ : ∃ y_ : List (S48), y_ = (lf.take ((ji3) : Int).toNat) := ⟨_, rfl⟩
      replace H : ((trammellaw0_SameOps.f k l0 l1).bind fun t261 => (if t261 = true then (if 0 ≤ (l1.length : Int) then (if (l1.length : Int) < (y257.length : Int) then (if ((((rd_T48 y257 (l1.length : Int)).f0).toList) == ([] : List UInt8) && (((rd_T48 y257 (l1.length : Int)).f1) == 0 && (((rd_T48 y257 (l1.length : Int)).f2) == 77777))) = true then (if 0 ≤ (wrap64 ((l1.length : Int) + 1)) then (if (wrap64 ((l1.length : Int) + 1)) < (y257.length : Int) then (some ((((rd_T48 y257 (wrap64 ((l1.length : Int) + 1))).f0).toList) == ([] : List UInt8) && (((rd_T48 y257 (wrap64 ((l1.length : Int) + 1))).f1) == 0 && (((rd_T48 y257 (wrap64 ((l1.length : Int) + 1))).f2) == 77777)))) else (none)) else (none)) else (some false)) else (none)) else (none)) else (some false))) = some r := by first | (rw [hy257]; with_reducible exact H) | (have H2_ := (Option.bind_some _ _).symm.trans H; rw [hy257]; with_reducible exact H2_) | (have H2_ := (Option.bind_some _ _).symm.trans H; with_reducible exact H2_) | with_reducible exact H | (rw [hy257]; exact H) | exact H
      have Ny257 := Aside0.mk hy257
      clear hy257
      replace H := Option.bind_eq_some_iff.mp H
      obtain ⟨t261, A60, H⟩ := H
      replace H : (if t261 = true then (if 0 ≤ (l1.length : Int) then (if (l1.length : Int) < (y257.length : Int) then (if ((((rd_T48 y257 (l1.length : Int)).f0).toList) == ([] : List UInt8) && (((rd_T48 y257 (l1.length : Int)).f1) == 0 && (((rd_T48 y257 (l1.length : Int)).f2) == 77777))) = true then (if 0 ≤ (wrap64 ((l1.length : Int) + 1)) then (if (wrap64 ((l1.length : Int) + 1)) < (y257.length : Int) then (some ((((rd_T48 y257 (wrap64 ((l1.length : Int) + 1))).f0).toList) == ([] : List UInt8) && (((rd_T48 y257 (wrap64 ((l1.length : Int) + 1))).f1) == 0 && (((rd_T48 y257 (wrap64 ((l1.length : Int) + 1))).f2) == 77777)))) else (none)) else (none)) else (some false)) else (none)) else (none)) else (some false)) = some r := H
      have A6 := Aside0.mk A60
      clear A60
      by_cases c7 : t261 = true
      · subst c7
        have H1 : (if 0 ≤ (l1.length : Int) then (if (l1.length : Int) < (y257.length : Int) then (if ((((rd_T48 y257 (l1.length : Int)).f0).toList) == ([] : List UInt8) && (((rd_T48 y257 (l1.length : Int)).f1) == 0 && (((rd_T48 y257 (l1.length : Int)).f2) == 77777))) = true then (if 0 ≤ (wrap64 ((l1.length : Int) + 1)) then (if (wrap64 ((l1.length : Int) + 1)) < (y257.length : Int) then (some ((((rd_T48 y257 (wrap64 ((l1.length : Int) + 1))).f0).toList) == ([] : List UInt8) && (((rd_T48 y257 (wrap64 ((l1.length : Int) + 1))).f1) == 0 && (((rd_T48 y257 (wrap64 ((l1.length : Int) + 1))).f2) == 77777)))) else (none)) else (none)) else (some false)) else (none)) else (none)) = some r := by rw [if_pos rfl] at H; exact H
        clear H
        have H := H1
        clear H1
        by_cases c8 : 0 ≤ (l1.length : Int)
        · rw [if_pos c8] at H
          have c8b0 : decide (0 ≤ (l1.length : Int)) = true := decide_eq_true c8
          have c8b1 : decide (0 ≤ l1.length) = true := decide_eq_true (by omega)
          clear c8
          by_cases c9 : (l1.length : Int) < (y257.length : Int)
          · rw [if_pos c9] at H
            have c9b0 : decide ((l1.length : Int) < (y257.length : Int)) = true := decide_eq_true c9
            have c9b1 : decide (l1.length < y257.length) = true := decide_eq_true (Int.ofNat_lt.mp c9)
            clear c9
            by_cases c10 : ((((rd_T48 y257 (l1.length : Int)).f0).toList) == ([] : List UInt8) && (((rd_T48 y257 (l1.length : Int)).f1) == 0 && (((rd_T48 y257 (l1.length : Int)).f2) == 77777))) = true
            · rw [if_pos c10] at H
              have c10b0 : ((((rd_T48 y257 (l1.length : Int)).f0).toList) == ([] : List UInt8) && (((rd_T48 y257 (l1.length : Int)).f1) == 0 && (((rd_T48 y257 (l1.length : Int)).f2) == 77777))) = true := c10
              (try (have c10b1 : decide ((((rd_T48 y257 (l1.length : Int)).f0).toList) = ([] : List UInt8) && (((rd_T48 y257 (l1.length : Int)).f1) == 0 && (((rd_T48 y257 (l1.length : Int)).f2) == 77777))) = true := by simpa using c10))
              (try (have c10b2 : ((((rd_T48 y257 (l1.length : Int)).f0).toList) == ([] : List UInt8) && (((rd_T48 y257 (l1.length : Int)).f1) == 0 && (((rd_T48 y257 (l1.length : Int)).f2) == 77777))) = true := by simpa using c10))
              clear c10
              obtain ⟨ji11, hji11⟩ : ∃ j_ : Int, (wrap64 ((l1.length : Int) + 1)) = j_ := ⟨_, rfl⟩
              replace H : (if 0 ≤ (ji11) then (if (ji11) < (y257.length : Int) then (some ((((rd_T48 y257 (ji11)).f0).toList) == ([] : List UInt8) && (((rd_T48 y257 (ji11)).f1) == 0 && (((rd_T48 y257 (ji11)).f2) == 77777)))) else (none)) else (none)) = some r := by first | (rw [hji11] at H; exact H) | (simp only [hji11] at H ⊢; exact H)
              (try rw [hji11] at A6)
              have hji11w : (IntKind.i64.wrap ((l1.length : Int) + 1)) = ji11 := (i64_w _).trans hji11
              by_cases c12 : 0 ≤ (ji11)
              · rw [if_pos c12] at H
                have c12b0 : decide (0 ≤ (ji11)) = true := decide_eq_true c12
                clear c12
                by_cases c13 : (ji11) < (y257.length : Int)
                · rw [if_pos c13] at H
                  have c13b0 : decide ((ji11) < (y257.length : Int)) = true := decide_eq_true c13
                  clear c13
                  obtain rfl := Option.some.inj H
                  have q14 : ((ji3) : Int) ≤ ((lf.length : Int) : Int) := of_decide_eq_true (by first | (with_reducible assumption) | assumption)
                  obtain ⟨i014, hi014, _, hsz14, _⟩ := info_parts info48
                  have hroom14 : lf.length ≤ c0 := HCF.out
                  have hC14 : Kd.C k48 _ A0 lf.length lf := HRF.out
                  have hcut14 := cut_cap (P := Tryd.prog) 22 48 .i64 Tryd.underlying22 hi014 A0 l0.length c0 (ji3) (of_decide_eq_true (by first | (with_reducible assumption) | assumption)) (by omega)
                  have hr14 := Kd.C_take (m := ((ji3) : Int).toNat) hC14 (by omega)
                  have hy14 : y257.length = ((ji3) : Int).toNat := (by rw [Ny257.out, List.length_take]; omega)
                  rw [← Ny257.out] at hr14
                  rw [← hy14] at hcut14
                  have HR260 := Aside0.mk hr14
                  have HC260 := Aside0.mk (show y257.length ≤ c0 from by omega)
                  clear hr14 hC14 hroom14 hi014 hsz14
                  have KY14 := Aside0.mk hy14
                  clear hy14
                  replace q14 := eq_true q14
                  go_enter Tryd.func52, Tryd.ntmps52
                  go_wp2_with (first | ((with_reducible refine gate_callee (f := 76) rfl ?_); refine goesL_ (some 13) rfl rfl Tryd.func76 (by kernel_rfl) rfl #[.slice A0 l0.length c0, .slice A1 l1.length c1] rfl (by (try simp only [List.map_toArray, List.map_cons, List.map_nil]); first | done | rfl | (simp only [List.length_drop, List.length_take]; rfl)) ?_; (with_reducible refine (trammellaw0_SameOps.calls k _ _ l0 _ _ l1 true _ ?side1 ?side2 ?side3 ?side4 A6.out).mono ?_); (case side1 => repeat (first | exact HR0.out | (with_reducible refine Kd.C_alloc ?_ _) | (with_reducible refine Kd.C_drewN ?_ _) | (with_reducible refine Kd.C_drew ?_))); (case side2 => exact HC0.out); (case side3 => repeat (first | exact HR1.out | (with_reducible refine Kd.C_alloc ?_ _) | (with_reducible refine Kd.C_drewN ?_ _) | (with_reducible refine Kd.C_drew ?_))); (case side4 => exact HC1.out); rintro e w' ⟨rfl, ⟨nd, rfl⟩⟩; refine ⟨_, rfl, ?_⟩; have p262 : 0 ≤ ((l1.length : Int) : Int) := of_decide_eq_true (by first | (with_reducible assumption) | assumption); have q262 : (l1.length : Int) < (y257.length : Int) := of_decide_eq_true (by first | (with_reducible assumption) | assumption); obtain ⟨ad262, e262, hx262_0, hx262_1, hx262_2⟩ := at_T48 HR260.out (l1.length : Int) p262 q262; cases e262; (try simp only [Go.IntWalk.toNatUp] at hx262_0); (try simp only [Go.IntWalk.toNatUp] at hx262_1); (try simp only [Go.IntWalk.toNatUp] at hx262_2); replace p262 := eq_true p262; replace q262 := eq_true q262; have p263 : 0 ≤ ((ji11) : Int) := of_decide_eq_true (by first | (with_reducible assumption) | assumption); have q263 : (ji11) < (y257.length : Int) := of_decide_eq_true (by first | (with_reducible assumption) | assumption); obtain ⟨ad263, e263, hx263_0, hx263_1, hx263_2⟩ := at_T48 HR260.out (ji11) p263 q263; obtain rfl : ad262 = ad263 := (by injection e263); replace p263 := eq_true p263; replace q263 := eq_true q263))
                  all_goals
                    go_ret
                    exact ⟨by first | rfl | (exfalso; simp only [Bool.and_eq_true, beq_iff_eq] at c10b0; first | contradiction | (rename_i hne_ _ _; exact hne_ c10b0) | grind) | rfl | (simp; done) | (simp only [← hji3, ← hji11] <;> (first | rfl | simp)) | (simp [*]; done) | (have ht_ := HT_.out; simp at ht_; simp_all; done) | (simp_all; done), by repeat (first | exact Drawn0.refl _ | apply Drawn0.step)⟩
                · rw [if_neg c13] at H
                  exact absurd H (by simp)
              · rw [if_neg c12] at H
                exact absurd H (by simp)
            · rw [if_neg c10] at H
              have H2_ := Option.some.inj H
              rw [HT_.out] at H2_
              exact absurd H2_ (by decide)
          · rw [if_neg c9] at H
            exact absurd H (by simp)
        · rw [if_neg c8] at H
          exact absurd H (by simp)
      · replace c7 := Bool.eq_false_iff.mpr c7
        subst c7
        have H1 : (some false) = some r := by rw [if_neg (show ¬ (false = true) by decide)] at H; exact H
        clear H
        have H := H1
        clear H1
        obtain rfl := Option.some.inj H
        have q16 : ((ji3) : Int) ≤ ((lf.length : Int) : Int) := of_decide_eq_true (by first | (with_reducible assumption) | assumption)
        obtain ⟨i016, hi016, _, hsz16, _⟩ := info_parts info48
        have hroom16 : lf.length ≤ c0 := HCF.out
        have hC16 : Kd.C k48 _ A0 lf.length lf := HRF.out
        have hcut16 := cut_cap (P := Tryd.prog) 22 48 .i64 Tryd.underlying22 hi016 A0 l0.length c0 (ji3) (of_decide_eq_true (by first | (with_reducible assumption) | assumption)) (by omega)
        have hr16 := Kd.C_take (m := ((ji3) : Int).toNat) hC16 (by omega)
        have hy16 : y257.length = ((ji3) : Int).toNat := (by rw [Ny257.out, List.length_take]; omega)
        rw [← Ny257.out] at hr16
        rw [← hy16] at hcut16
        have HR260 := Aside0.mk hr16
        have HC260 := Aside0.mk (show y257.length ≤ c0 from by omega)
        clear hr16 hC16 hroom16 hi016 hsz16
        have KY16 := Aside0.mk hy16
        clear hy16
        replace q16 := eq_true q16
        go_enter Tryd.func52, Tryd.ntmps52
        go_wp2_with (first | ((with_reducible refine gate_callee (f := 76) rfl ?_); refine goesL_ (some 13) rfl rfl Tryd.func76 (by kernel_rfl) rfl #[.slice A0 l0.length c0, .slice A1 l1.length c1] rfl (by (try simp only [List.map_toArray, List.map_cons, List.map_nil]); first | done | rfl | (simp only [List.length_drop, List.length_take]; rfl)) ?_; (with_reducible refine (trammellaw0_SameOps.calls k _ _ l0 _ _ l1 false _ ?side1 ?side2 ?side3 ?side4 A6.out).mono ?_); (case side1 => repeat (first | exact HR0.out | (with_reducible refine Kd.C_alloc ?_ _) | (with_reducible refine Kd.C_drewN ?_ _) | (with_reducible refine Kd.C_drew ?_))); (case side2 => exact HC0.out); (case side3 => repeat (first | exact HR1.out | (with_reducible refine Kd.C_alloc ?_ _) | (with_reducible refine Kd.C_drewN ?_ _) | (with_reducible refine Kd.C_drew ?_))); (case side4 => exact HC1.out); rintro e w' ⟨rfl, ⟨nd, rfl⟩⟩; refine ⟨_, rfl, ?_⟩))
        all_goals
          go_ret
          exact ⟨by first | rfl | (exfalso; simp only [Bool.and_eq_true, beq_iff_eq] at c10b0; first | contradiction | (rename_i hne_ _ _; exact hne_ c10b0) | grind) | rfl | (simp; done) | (simp only [← hji3] <;> (first | rfl | simp)) | (simp [*]; done) | (have ht_ := HT_.out; simp at ht_; simp_all; done) | (simp_all; done), by repeat (first | exact Drawn0.refl _ | apply Drawn0.step)⟩
    · rw [if_neg c5] at H
      exact absurd H (by simp)
  · rw [if_neg c4] at H
    exact absurd H (by simp)
end Go.Proofs.YtnogfhhfklkbiaaDoor.H

set_option linter.unusedVariables false
set_option linter.unusedSimpArgs false
namespace Go.Proofs.YtnogfhhfklkbiaaDoor.H
open Go.RowKit Go.Proofs.YtnogfhhfklkbiaaDoorW.PrintWords Go.Proofs.YtnogfhhfklkbiaaDoorW.PrintLast Go.Proofs.YtnogfhhfklkbiaaDoorW.PrintMore
def marksO : List S48 := [⟨⟨#[]⟩, 0, 77777⟩, ⟨⟨#[]⟩, 0, 77777⟩]
def marksN : List S45 := [⟨0, 0, 0, 0, 0, ⟨#[]⟩, ⟨#[]⟩, ⟨#[]⟩, ⟨#[]⟩, 77777⟩, ⟨0, 0, 0, 0, 0, ⟨#[]⟩, ⟨#[]⟩, ⟨#[]⟩, ⟨#[]⟩, 77777⟩]
theorem copyOps_is {l t : List S48} (h : trammellaw0_CopyOps.f l = some t) : t = l := by
  unfold trammellaw0_CopyOps.f at h
  simp only [Option.bind_some, List.nil_append] at h
  split at h
  · exact (Option.some.inj h).symm
  · cases h
theorem copyNodes_is {l t : List S45} (h : trammellaw0_CopyNodes.f l = some t) : t = l := by
  unfold trammellaw0_CopyNodes.f at h
  simp only [Option.bind_some, List.nil_append] at h
  split at h
  · exact (Option.some.inj h).symm
  · cases h
theorem lendOps_is {l r : List S48} (h : trammellaw0_LendOps.f l = some r) : r = l := by
  unfold trammellaw0_LendOps.f at h
  replace h := Option.bind_eq_some_iff.mp h
  obtain ⟨t, ht, h⟩ := h
  obtain rfl := copyOps_is ht
  simp only [Option.bind_some] at h
  split at h
  · split at h
    · split at h
      · rw [Int.toNat_natCast, List.take_left] at h
        exact (Option.some.inj h).symm
      · cases h
    · cases h
  · cases h
theorem lendNodes_is {l r : List S45} (h : trammellaw0_LendNodes.f l = some r) : r = l := by
  unfold trammellaw0_LendNodes.f at h
  replace h := Option.bind_eq_some_iff.mp h
  obtain ⟨t, ht, h⟩ := h
  obtain rfl := copyNodes_is ht
  simp only [Option.bind_some] at h
  split at h
  · split at h
    · split at h
      · rw [Int.toNat_natCast, List.take_left] at h
        exact (Option.some.inj h).symm
      · cases h
    · cases h
  · cases h
theorem lendOps_some (l : List S48) (h : l.length + 2 < 4398046511104) : trammellaw0_LendOps.f l = some l := by
  have hc : trammellaw0_CopyOps.f l = some l := by
    unfold trammellaw0_CopyOps.f
    simp only [Option.bind_some, List.nil_append]
    rw [if_pos (by simp only [List.length_nil]; omega)]
  unfold trammellaw0_LendOps.f
  rw [hc]
  simp only [Option.bind_some]
  rw [if_pos (by simpa using h), if_pos (by omega), if_pos (by simp; omega), Int.toNat_natCast, List.take_left]
theorem lendNodes_some (l : List S45) (h : l.length + 2 < 1256584717458) : trammellaw0_LendNodes.f l = some l := by
  have hc : trammellaw0_CopyNodes.f l = some l := by
    unfold trammellaw0_CopyNodes.f
    simp only [Option.bind_some, List.nil_append]
    rw [if_pos (by simp only [List.length_nil]; omega)]
  unfold trammellaw0_LendNodes.f
  rw [hc]
  simp only [Option.bind_some]
  rw [if_pos (by simpa using h), if_pos (by omega), if_pos (by simp; omega), Int.toNat_natCast, List.take_left]
theorem lendProgram_some (os : List S48) (ns : List S45) (h0 : os.length + 2 < 4398046511104) (h1 : ns.length + 2 < 1256584717458) : trammellaw0_LendProgram.f os ns = some (os, ns) := by
  unfold trammellaw0_LendProgram.f
  rw [lendOps_some os h0, Option.bind_some, lendNodes_some ns h1, Option.bind_some]
theorem lendProgram_is {os r1 : List S48} {ns r2 : List S45} (h : trammellaw0_LendProgram.f os ns = some (r1, r2)) : r1 = os ∧ r2 = ns := by
  unfold trammellaw0_LendProgram.f at h
  replace h := Option.bind_eq_some_iff.mp h
  obtain ⟨t, ht, h⟩ := h
  replace h := Option.bind_eq_some_iff.mp h
  obtain ⟨u, hu, h⟩ := h
  obtain rfl := lendOps_is ht
  obtain rfl := lendNodes_is hu
  simp only [Option.some.injEq, Prod.mk.injEq] at h
  exact ⟨h.1.symm, h.2.symm⟩
theorem shortR {α : Type} {d : Kd α} {e base c : Nat} {ok : Nat → Prop} {w : World} {A : Option Addr} {xs m : List α} (h : Kd.R d e w base ok (.slice A (xs ++ m).length c) (xs ++ m)) : Kd.R d e w base ok (.slice A xs.length c) xs := by
  have h1 := Kd.R_take (m := xs.length) h (by rw [List.length_append]; omega)
  rw [List.take_left] at h1
  exact h1
theorem lendProgram_callsP (A0_0 : Option Addr) (c0_0 : Nat) (l0_0 : List (S48)) (A0_1 : Option Addr) (c0_1 : Nat) (l0_1 : List (S45)) (r1 : List (S48)) (r2 : List (S45)) (w : World) (hr0_0 : Kd.C k48 w A0_0 l0_0.length l0_0) (hc0_0 : l0_0.length ≤ c0_0) (hr0_1 : Kd.C k45 w A0_1 l0_1.length l0_1) (hc0_1 : l0_1.length ≤ c0_1) (h : trammellaw0_LendProgram.f l0_0 l0_1 = some (r1, r2)) :
    Calls Tryd.prog 13 #[.agg #[.slice A0_0 l0_0.length c0_0, .slice A0_1 l0_1.length c0_1]] w fun e w' => ∃ (A0_ A1_ : Option Addr) (d0_ d1_ : Nat), e = .returned (.agg #[.slice A0_ r1.length d0_, .slice A1_ r2.length d1_]) ∧ Kd.R k48 48 w' w.heap.size (fun _ => True) (.slice A0_ (r1 ++ marksO).length d0_) (r1 ++ marksO) ∧ Kd.R k45 45 w' w.heap.size (fun _ => True) (.slice A1_ (r2 ++ marksN).length d1_) (r2 ++ marksN) ∧ Below w.heap.size w w' := by
  refine (trammellaw0_LendProgram.callsL A0_0 c0_0 l0_0 A0_1 c0_1 l0_1 r1 r2 w hr0_0 hc0_0 hr0_1 hc0_1 h).mono ?_
  rintro e w' ⟨t0, t1, A0_, A1_, d0_, d1_, e0, e1, he, hR0, hR1, hb⟩
  obtain rfl := copyOps_is e0
  obtain rfl := copyNodes_is e1
  obtain ⟨rfl, rfl⟩ := lendProgram_is h
  exact ⟨A0_, A1_, d0_, d1_, he, hR0, hR1, hb⟩
def trammellaw0_KeptProgram.fP (k : Nat) (l0_0 : List (S48)) (l0_1 : List (S45)) (l1_0 : List (S48)) (l1_1 : List (S45)) : Option Bool :=
  (trammellaw0_KeptOps.fL k (l0_0 ++ marksO) l0_0 l1_0).bind fun t => if t = true then trammellaw0_KeptNodes.fL k (l0_1 ++ marksN) l0_1 l1_1 else some false
set_option maxHeartbeats 8000000 in
set_option maxRecDepth 100000 in
theorem keptProgram_callsP (k : Nat) (A0_0 : Option Addr) (c0_0 : Nat) (l0_0 : List (S48)) (A0_1 : Option Addr) (c0_1 : Nat) (l0_1 : List (S45)) (A1_0 : Option Addr) (c1_0 : Nat) (l1_0 : List (S48)) (A1_1 : Option Addr) (c1_1 : Nat) (l1_1 : List (S45)) (w : World) (hf0_0 : Kd.C k48 w A0_0 (l0_0 ++ marksO).length (l0_0 ++ marksO)) (hd0_0 : (l0_0 ++ marksO).length ≤ c0_0) (hf0_1 : Kd.C k45 w A0_1 (l0_1 ++ marksN).length (l0_1 ++ marksN)) (hd0_1 : (l0_1 ++ marksN).length ≤ c0_1)
    (hr1_0 : Kd.C k48 w A1_0 l1_0.length l1_0) (hc1_0 : l1_0.length ≤ c1_0) (hr1_1 : Kd.C k45 w A1_1 l1_1.length l1_1) (hc1_1 : l1_1.length ≤ c1_1) (h : trammellaw0_KeptProgram.fP k l0_0 l0_1 l1_0 l1_1 = some true) :
    Calls Tryd.prog 25 #[.agg #[.slice A0_0 l0_0.length c0_0, .slice A0_1 l0_1.length c0_1], .agg #[.slice A1_0 l1_0.length c1_0, .slice A1_1 l1_1.length c1_1]] w fun e w' => e = .returned (.bool true) ∧ Below w.heap.size w w' := by
  have hs0 : Kd.C k48 w A0_0 l0_0.length l0_0 := by
    have h1 := Kd.C_take hf0_0 (m := l0_0.length) (by rw [List.length_append]; omega)
    rw [List.take_left] at h1
    exact h1
  have hs1 : Kd.C k45 w A0_1 l0_1.length l0_1 := by
    have h1 := Kd.C_take hf0_1 (m := l0_1.length) (by rw [List.length_append]; omega)
    rw [List.take_left] at h1
    exact h1
  have hn0 : l0_0.length ≤ c0_0 := by rw [List.length_append] at hd0_0; omega
  have hn1 : l0_1.length ≤ c0_1 := by rw [List.length_append] at hd0_1; omega
  unfold trammellaw0_KeptProgram.fP at h
  replace h := Option.bind_eq_some_iff.mp h
  obtain ⟨t, ht, h⟩ := h
  have htt : t = true := by
    cases t
    · simp at h
    · rfl
  subst htt
  rw [if_pos rfl] at h
  have KO := Aside0.mk (fun (W : World) (hb : Below w.heap.size w W) => trammellaw0_KeptOps.callsL k _ A0_0 c0_0 l0_0 A1_0 c1_0 l1_0 true W (Kd.C_below hs0 hb) hn0 (Kd.C_below hr1_0 hb) hc1_0 rfl (Kd.C_below hf0_0 hb) hd0_0 ht)
  have KN := Aside0.mk (fun (W : World) (hb : Below w.heap.size w W) => trammellaw0_KeptNodes.callsL k _ A0_1 c0_1 l0_1 A1_1 c1_1 l1_1 true W (Kd.C_below hs1 hb) hn1 (Kd.C_below hr1_1 hb) hc1_1 rfl (Kd.C_below hf0_1 hb) hd0_1 h)
  clear hs0 hs1 hn0 hn1 hf0_0 hf0_1 hd0_0 hd0_1 hr1_0 hr1_1 hc1_0 hc1_1 ht h
  have HB2 := Aside0.mk (show Below w.heap.size w ((w.alloc (.cells #[.slice A0_0 l0_0.length c0_0, .slice A0_1 l0_1.length c0_1] 25)).alloc (.cells #[.slice A1_0 l1_0.length c1_0, .slice A1_1 l1_1.length c1_1] 25)) from ((Below.refl _ _).alloc (Nat.le_refl _) _).alloc (by simp) _)
  go_enter Tryd.func25, Tryd.ntmps25
  go_wp2_with (first | (go_at_call 52; (with_reducible refine (KO.out _ ?hb).mono ?_); (case hb => exact HB2.out); rintro e w' ⟨rfl, ⟨nd, rfl⟩⟩) | (go_at_call 53; (with_reducible refine (KN.out _ ?hb2).mono ?_); (case hb2 => exact pw_below_drewN HB2.out _); rintro e w' ⟨rfl, ⟨nd2, rfl⟩⟩))
  go_ret
  exact ⟨rfl, pw_below_drewN HB2.out _⟩
end Go.Proofs.YtnogfhhfklkbiaaDoor.H

namespace Go.Proofs.YtnogfhhfklkbiaaDoor.H
open Go.RowKit Go.Proofs.YtnogfhhfklkbiaaDoorW.PrintWords Go.Proofs.YtnogfhhfklkbiaaDoorW.PrintLast Go.Proofs.YtnogfhhfklkbiaaDoorW.PrintMore
attribute [local go_sem] max2_int min2_int max_two min_two max_three min_three max_four min_four
set_option linter.unusedVariables false
set_option linter.unusedSimpArgs false
def trammellaw3_Trees.j0 : Nat → List (S45) → Bool → List (S48) → List (S45) → List (S48) → List (S45) → Option (Bool)
  | 0, _, _, _, _, _, _ => none
  | k + 1, x12, x86, x293000, x293001, x301000, x301001 => if x86 = true then (some false) else ((trammellaw0_SpoilNodes.f k x12).bind fun t320 => ((trammellaw0_KeptProgram.fP k x301000 x301001 x293000 x293001).bind fun t321 => (if t321 = true then ((trammellaw3_awake.f k).bind fun t322 => (some t322)) else (some false))))
def trammellaw3_Trees.f (k : Nat) (l0_0 : List (S48)) (l0_1 : List (S45)) (l1_0 : List (S48)) (l1_1 : List (S45)) (a2 : Int) : Option (Bool) := (trammellaw0_LendProgram.f l0_0 l0_1).bind fun bt294 => ((tree_Depth.f k bt294.2 a2).bind fun bt301 => ((trammelref1_Depth.f k l0_1 a2).bind fun bt303 => ((tree_Part.f k bt294.2 a2).bind fun bt305 => ((trammelref1_Part.f k l0_1 a2).bind fun bt309 => (if bt301.1 = bt303.1 then ((trammellaw0_Num.f bt301.2).bind fun t313 => (if t313 = bt303.2 then ((trammellaw0_SameNodes.f k bt305.1 bt309.1).bind fun t314 => (if t314 = true then ((trammellaw0_Num.f bt305.2).bind fun t315 => (if t315 = bt309.2 then ((tree_May.f k bt294.1 bt294.2).bind fun t316 => ((trammelref1_TreeMay.f k l0_0 l0_1).bind fun t317 => (if (t316 != t317) = true then (trammellaw3_Trees.j0 k bt305.1 true l0_0 l0_1 bt294.1 bt294.2) else ((tree_Same.f bt294.2 l1_1).bind fun t318 => ((trammelref1_SameTree.f l0_1 l1_1).bind fun t319 => (trammellaw3_Trees.j0 k bt305.1 (t318 != t319) l0_0 l0_1 bt294.1 bt294.2)))))) else (trammellaw3_Trees.j0 k bt305.1 true l0_0 l0_1 bt294.1 bt294.2))) else (trammellaw3_Trees.j0 k bt305.1 true l0_0 l0_1 bt294.1 bt294.2))) else (trammellaw3_Trees.j0 k bt305.1 true l0_0 l0_1 bt294.1 bt294.2))) else (trammellaw3_Trees.j0 k bt305.1 true l0_0 l0_1 bt294.1 bt294.2))))))
def trammellaw3_Trees.T6 : Bool × List (List Nat × List Nat) := (true, [([], []), ([], []), ([0, 1], [0, 1]), ([2], [2]), ([3], [3]), ([4, 3, 3], [3, 4]), ([3], [3]), ([5, 6, 3], [3, 5, 6]), ([3, 7], [3, 7]), ([8, 5], [8]), ([9], [9]), ([9], [9]), ([10, 11, 9, 9], [9, 10, 11]), ([12, 9], [9, 12]), ([9, 13], [9, 13]), ([14, 12], [14]), ([15], [15]), ([16, 15, 15], [15, 16]), ([15], [15]), ([17, 18, 15], [15, 17, 18]), ([15, 19], [15, 19]), ([20, 17], [20]), ([21], [21]), ([22, 21, 21], [21, 22]), ([21], [21]), ([24, 23, 21], [21, 24]), ([23, 25, 21], [21, 23, 25]), ([21, 26], [21, 26]), ([27, 25], [27]), ([28], [28]), ([29, 28], [28, 29]), ([28], [28]), ([31, 28], [28, 31]), ([30, 32, 28, 28], [28, 30, 32]), ([28], [28]), ([34, 28], [28, 34]), ([28], [28]), ([36, 28], [28, 36]), ([35, 37, 33, 28], [28, 35, 37]), ([33, 38, 28], [28, 33, 38]), ([28, 39], [28, 39])])
def trammellaw3_Trees.B6 : List Nat := [0, 0, 3, 7, 15, 31, 15, 127, 255, 511, 1023, 1023, 4095, 8191, 16383, 32767, 65535, 131071, 65535, 524287, 1048575, 2097151, 4194303, 8388607, 4194303, 33554431, 67108863, 134217727, 268435455, 536870911, 1073741823, 536870911, 2684354559, 8589934591, 536870911, 17716740095, 536870911, 69256347647, 274877906943, 549755813887, 1099511627775]
theorem trammellaw3_Trees.tab6 : rtab .any (opsOf Tryd.f3 6) = trammellaw3_Trees.T6 := by kernel_rfl
theorem trammellaw3_Trees.bits6 : waitsOk trammellaw3_Trees.T6.2 trammellaw3_Trees.B6 = true := by kernel_rfl
theorem trammellaw3_Trees_no {k : Nat} {y0 : List (S45)} {y2 : List (S48)} {y3 : List (S45)} {y4 : List (S48)} {y5 : List (S45)} {r : Bool} (h : trammellaw3_Trees.j0 k y0 true y2 y3 y4 y5 = some r) (hr : r = true) : False := by
  subst hr
  cases k with
  | zero => simp [trammellaw3_Trees.j0] at h
  | succ k => simp [trammellaw3_Trees.j0] at h
end Go.Proofs.YtnogfhhfklkbiaaDoor.H
