/- Several texts in one: contracts of functions of the program, and what they lean on. In part written by a program of this session over the kit's print, in part by hand. -/
import Derived.Test.YtoedpbjeangdhaaGreatDoorYShowTexts5
import Derived.Test.YtoedpbjeangdhaaGreatDoorYShowTexts6
import Derived.Test.YtoedpbjeangdhaaGreatDoorYShowTexts7
import Derived.Test.YtoedpbjeangdhaaGreatDoorYShowTexts8
import Derived.Test.YtoedpbjeangdhaaGreatDoorYShowTexts4
namespace Go.Proofs.YtoedpbjeangdhaaGreatDoor.Ev
open Go Go.Ev
set_option linter.unusedVariables false
theorem all_ShowTexts : ∀ r0, r0 < 22 →  yes (funC Tryz.prog xb ext 100000 3 [.res .i64 22 r0] (memOf vars) fun v m => some (v, m)) = true
  | 0, _ => v_ShowTexts_0
  | 1, _ => v_ShowTexts_1
  | 2, _ => v_ShowTexts_2
  | 3, _ => v_ShowTexts_3
  | 4, _ => v_ShowTexts_4
  | 5, _ => v_ShowTexts_5
  | 6, _ => v_ShowTexts_6
  | 7, _ => v_ShowTexts_7
  | 8, _ => v_ShowTexts_8
  | 9, _ => v_ShowTexts_9
  | 10, _ => v_ShowTexts_10
  | 11, _ => v_ShowTexts_11
  | 12, _ => v_ShowTexts_12
  | 13, _ => v_ShowTexts_13
  | 14, _ => v_ShowTexts_14
  | 15, _ => v_ShowTexts_15
  | 16, _ => v_ShowTexts_16
  | 17, _ => v_ShowTexts_17
  | 18, _ => v_ShowTexts_18
  | 19, _ => v_ShowTexts_19
  | 20, _ => v_ShowTexts_20
  | 21, _ => v_ShowTexts_21
  | n + 22, h => absurd h (by omega)
theorem calls_ShowTexts (a0 : Int) (W : World) (hG : Err.ErrTy W) (hS : W.ShapedOpen Tryz.prog) : Calls Tryz.prog 3 #[.int .i64 a0] W fun e W' => e = .returned (.bool true) ∧ RowKit.Below W.heap.size W W' := by
  obtain ⟨m', h⟩ := yes_spec (yes_of (all_ShowTexts ((a0 % 18446744073709551616).toNat % 22) (Nat.mod_lt _ (by decide))))
  refine (calls_of (ok ext extOk 100000) h rfl (us := #[.int .i64 a0]) (varsAt hG hS) (.cons (.res _ _ _ a0 rfl (fun h => by cases h)) (.nil _))).mono fun e w' ⟨⟨x, he, hR⟩, hb⟩ => ?_
  cases hR
  exact ⟨he, hb⟩
end Go.Proofs.YtoedpbjeangdhaaGreatDoor.Ev
