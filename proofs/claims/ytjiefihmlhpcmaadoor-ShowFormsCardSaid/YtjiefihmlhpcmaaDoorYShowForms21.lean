/- Several texts in one: contracts of functions of the program, and what they lean on. In part written by a program of this session over the kit's print, in part by hand. -/
import Derived.Test.YtjiefihmlhpcmaaDoorYShowForms5
import Derived.Test.YtjiefihmlhpcmaaDoorYShowForms6
import Derived.Test.YtjiefihmlhpcmaaDoorYShowForms7
import Derived.Test.YtjiefihmlhpcmaaDoorYShowForms8
import Derived.Test.YtjiefihmlhpcmaaDoorYShowForms9
import Derived.Test.YtjiefihmlhpcmaaDoorYShowForms10
import Derived.Test.YtjiefihmlhpcmaaDoorYShowForms11
import Derived.Test.YtjiefihmlhpcmaaDoorYShowForms12
import Derived.Test.YtjiefihmlhpcmaaDoorYShowForms13
import Derived.Test.YtjiefihmlhpcmaaDoorYShowForms14
import Derived.Test.YtjiefihmlhpcmaaDoorYShowForms15
import Derived.Test.YtjiefihmlhpcmaaDoorYShowForms16
import Derived.Test.YtjiefihmlhpcmaaDoorYShowForms17
import Derived.Test.YtjiefihmlhpcmaaDoorYShowForms18
import Derived.Test.YtjiefihmlhpcmaaDoorYShowForms19
import Derived.Test.YtjiefihmlhpcmaaDoorYShowForms20
import Derived.Test.YtjiefihmlhpcmaaDoorYShowForms4
namespace Go.Proofs.YtjiefihmlhpcmaaDoor.Ev
open Go Go.Ev
set_option linter.unusedVariables false
theorem all_ShowForms : ∀ r0, ∀ r1, r0 < 2 → r1 < 64 →  yes (funC Tryd.prog xb ext 100000 3 [.res .i64 2 r0, .res .i64 64 r1] (memOf vars) fun v m => some (v, m)) = true
  | 0, 0, _, _ => v_ShowForms_0_0
  | 0, 1, _, _ => v_ShowForms_0_1
  | 0, 2, _, _ => v_ShowForms_0_2
  | 0, 3, _, _ => v_ShowForms_0_3
  | 0, 4, _, _ => v_ShowForms_0_4
  | 0, 5, _, _ => v_ShowForms_0_5
  | 0, 6, _, _ => v_ShowForms_0_6
  | 0, 7, _, _ => v_ShowForms_0_7
  | 0, 8, _, _ => v_ShowForms_0_8
  | 0, 9, _, _ => v_ShowForms_0_9
  | 0, 10, _, _ => v_ShowForms_0_10
  | 0, 11, _, _ => v_ShowForms_0_11
  | 0, 12, _, _ => v_ShowForms_0_12
  | 0, 13, _, _ => v_ShowForms_0_13
  | 0, 14, _, _ => v_ShowForms_0_14
  | 0, 15, _, _ => v_ShowForms_0_15
  | 0, 16, _, _ => v_ShowForms_0_16
  | 0, 17, _, _ => v_ShowForms_0_17
  | 0, 18, _, _ => v_ShowForms_0_18
  | 0, 19, _, _ => v_ShowForms_0_19
  | 0, 20, _, _ => v_ShowForms_0_20
  | 0, 21, _, _ => v_ShowForms_0_21
  | 0, 22, _, _ => v_ShowForms_0_22
  | 0, 23, _, _ => v_ShowForms_0_23
  | 0, 24, _, _ => v_ShowForms_0_24
  | 0, 25, _, _ => v_ShowForms_0_25
  | 0, 26, _, _ => v_ShowForms_0_26
  | 0, 27, _, _ => v_ShowForms_0_27
  | 0, 28, _, _ => v_ShowForms_0_28
  | 0, 29, _, _ => v_ShowForms_0_29
  | 0, 30, _, _ => v_ShowForms_0_30
  | 0, 31, _, _ => v_ShowForms_0_31
  | 0, 32, _, _ => v_ShowForms_0_32
  | 0, 33, _, _ => v_ShowForms_0_33
  | 0, 34, _, _ => v_ShowForms_0_34
  | 0, 35, _, _ => v_ShowForms_0_35
  | 0, 36, _, _ => v_ShowForms_0_36
  | 0, 37, _, _ => v_ShowForms_0_37
  | 0, 38, _, _ => v_ShowForms_0_38
  | 0, 39, _, _ => v_ShowForms_0_39
  | 0, 40, _, _ => v_ShowForms_0_40
  | 0, 41, _, _ => v_ShowForms_0_41
  | 0, 42, _, _ => v_ShowForms_0_42
  | 0, 43, _, _ => v_ShowForms_0_43
  | 0, 44, _, _ => v_ShowForms_0_44
  | 0, 45, _, _ => v_ShowForms_0_45
  | 0, 46, _, _ => v_ShowForms_0_46
  | 0, 47, _, _ => v_ShowForms_0_47
  | 0, 48, _, _ => v_ShowForms_0_48
  | 0, 49, _, _ => v_ShowForms_0_49
  | 0, 50, _, _ => v_ShowForms_0_50
  | 0, 51, _, _ => v_ShowForms_0_51
  | 0, 52, _, _ => v_ShowForms_0_52
  | 0, 53, _, _ => v_ShowForms_0_53
  | 0, 54, _, _ => v_ShowForms_0_54
  | 0, 55, _, _ => v_ShowForms_0_55
  | 0, 56, _, _ => v_ShowForms_0_56
  | 0, 57, _, _ => v_ShowForms_0_57
  | 0, 58, _, _ => v_ShowForms_0_58
  | 0, 59, _, _ => v_ShowForms_0_59
  | 0, 60, _, _ => v_ShowForms_0_60
  | 0, 61, _, _ => v_ShowForms_0_61
  | 0, 62, _, _ => v_ShowForms_0_62
  | 0, 63, _, _ => v_ShowForms_0_63
  | 1, 0, _, _ => v_ShowForms_1_0
  | 1, 1, _, _ => v_ShowForms_1_1
  | 1, 2, _, _ => v_ShowForms_1_2
  | 1, 3, _, _ => v_ShowForms_1_3
  | 1, 4, _, _ => v_ShowForms_1_4
  | 1, 5, _, _ => v_ShowForms_1_5
  | 1, 6, _, _ => v_ShowForms_1_6
  | 1, 7, _, _ => v_ShowForms_1_7
  | 1, 8, _, _ => v_ShowForms_1_8
  | 1, 9, _, _ => v_ShowForms_1_9
  | 1, 10, _, _ => v_ShowForms_1_10
  | 1, 11, _, _ => v_ShowForms_1_11
  | 1, 12, _, _ => v_ShowForms_1_12
  | 1, 13, _, _ => v_ShowForms_1_13
  | 1, 14, _, _ => v_ShowForms_1_14
  | 1, 15, _, _ => v_ShowForms_1_15
  | 1, 16, _, _ => v_ShowForms_1_16
  | 1, 17, _, _ => v_ShowForms_1_17
  | 1, 18, _, _ => v_ShowForms_1_18
  | 1, 19, _, _ => v_ShowForms_1_19
  | 1, 20, _, _ => v_ShowForms_1_20
  | 1, 21, _, _ => v_ShowForms_1_21
  | 1, 22, _, _ => v_ShowForms_1_22
  | 1, 23, _, _ => v_ShowForms_1_23
  | 1, 24, _, _ => v_ShowForms_1_24
  | 1, 25, _, _ => v_ShowForms_1_25
  | 1, 26, _, _ => v_ShowForms_1_26
  | 1, 27, _, _ => v_ShowForms_1_27
  | 1, 28, _, _ => v_ShowForms_1_28
  | 1, 29, _, _ => v_ShowForms_1_29
  | 1, 30, _, _ => v_ShowForms_1_30
  | 1, 31, _, _ => v_ShowForms_1_31
  | 1, 32, _, _ => v_ShowForms_1_32
  | 1, 33, _, _ => v_ShowForms_1_33
  | 1, 34, _, _ => v_ShowForms_1_34
  | 1, 35, _, _ => v_ShowForms_1_35
  | 1, 36, _, _ => v_ShowForms_1_36
  | 1, 37, _, _ => v_ShowForms_1_37
  | 1, 38, _, _ => v_ShowForms_1_38
  | 1, 39, _, _ => v_ShowForms_1_39
  | 1, 40, _, _ => v_ShowForms_1_40
  | 1, 41, _, _ => v_ShowForms_1_41
  | 1, 42, _, _ => v_ShowForms_1_42
  | 1, 43, _, _ => v_ShowForms_1_43
  | 1, 44, _, _ => v_ShowForms_1_44
  | 1, 45, _, _ => v_ShowForms_1_45
  | 1, 46, _, _ => v_ShowForms_1_46
  | 1, 47, _, _ => v_ShowForms_1_47
  | 1, 48, _, _ => v_ShowForms_1_48
  | 1, 49, _, _ => v_ShowForms_1_49
  | 1, 50, _, _ => v_ShowForms_1_50
  | 1, 51, _, _ => v_ShowForms_1_51
  | 1, 52, _, _ => v_ShowForms_1_52
  | 1, 53, _, _ => v_ShowForms_1_53
  | 1, 54, _, _ => v_ShowForms_1_54
  | 1, 55, _, _ => v_ShowForms_1_55
  | 1, 56, _, _ => v_ShowForms_1_56
  | 1, 57, _, _ => v_ShowForms_1_57
  | 1, 58, _, _ => v_ShowForms_1_58
  | 1, 59, _, _ => v_ShowForms_1_59
  | 1, 60, _, _ => v_ShowForms_1_60
  | 1, 61, _, _ => v_ShowForms_1_61
  | 1, 62, _, _ => v_ShowForms_1_62
  | 1, 63, _, _ => v_ShowForms_1_63
  | n + 2, _, h, _ => absurd h (by omega)
  | _, n + 64, _, h => absurd h (by omega)
theorem calls_ShowForms (a0 a1 : Int) (W : World) (hG : Err.ErrTy W) (hS : W.ShapedOpen Tryd.prog) : Calls Tryd.prog 3 #[.int .i64 a0, .int .i64 a1] W fun e W' => e = .returned (.bool true) ∧ RowKit.Below W.heap.size W W' := by
  obtain ⟨m', h⟩ := yes_spec (yes_of (all_ShowForms ((a0 % 18446744073709551616).toNat % 2) ((a1 % 18446744073709551616).toNat % 64) (Nat.mod_lt _ (by decide)) (Nat.mod_lt _ (by decide))))
  refine (calls_of (ok ext extOk 100000) h rfl (us := #[.int .i64 a0, .int .i64 a1]) (varsAt hG hS) (.cons (.res _ _ _ a0 rfl (fun h => by cases h)) (.cons (.res _ _ _ a1 rfl (fun h => by cases h)) (.nil _)))).mono fun e w' ⟨⟨x, he, hR⟩, hb⟩ => ?_
  cases hR
  exact ⟨he, hb⟩
end Go.Proofs.YtjiefihmlhpcmaaDoor.Ev
