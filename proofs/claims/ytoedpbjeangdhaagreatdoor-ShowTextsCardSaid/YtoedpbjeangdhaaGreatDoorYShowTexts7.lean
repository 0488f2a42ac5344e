/- Several texts in one: contracts of functions of the program, and what they lean on. In part written by a program of this session over the kit's print, in part by hand. -/
import Derived.Test.YtoedpbjeangdhaaGreatDoorYShowTexts4
namespace Go.Proofs.YtoedpbjeangdhaaGreatDoor.Ev
open Go Go.Ev
set_option linter.unusedVariables false
theorem v_ShowTexts_12 : yes (funC Tryz.prog xb ext 100000 3 [.res .i64 22 12] (memOf vars) fun v m => some (v, m)) = true := by kernel_rfl
theorem v_ShowTexts_13 : yes (funC Tryz.prog xb ext 100000 3 [.res .i64 22 13] (memOf vars) fun v m => some (v, m)) = true := by kernel_rfl
theorem v_ShowTexts_14 : yes (funC Tryz.prog xb ext 100000 3 [.res .i64 22 14] (memOf vars) fun v m => some (v, m)) = true := by kernel_rfl
theorem v_ShowTexts_15 : yes (funC Tryz.prog xb ext 100000 3 [.res .i64 22 15] (memOf vars) fun v m => some (v, m)) = true := by kernel_rfl
theorem v_ShowTexts_16 : yes (funC Tryz.prog xb ext 100000 3 [.res .i64 22 16] (memOf vars) fun v m => some (v, m)) = true := by kernel_rfl
theorem v_ShowTexts_17 : yes (funC Tryz.prog xb ext 100000 3 [.res .i64 22 17] (memOf vars) fun v m => some (v, m)) = true := by kernel_rfl
end Go.Proofs.YtoedpbjeangdhaaGreatDoor.Ev
