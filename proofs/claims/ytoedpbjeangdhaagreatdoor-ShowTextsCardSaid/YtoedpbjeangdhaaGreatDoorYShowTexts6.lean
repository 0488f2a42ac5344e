/- Several texts in one: contracts of functions of the program, and what they lean on. In part written by a program of this session over the kit's print, in part by hand. -/
import Derived.Test.YtoedpbjeangdhaaGreatDoorYShowTexts4
namespace Go.Proofs.YtoedpbjeangdhaaGreatDoor.Ev
open Go Go.Ev
set_option linter.unusedVariables false
theorem v_ShowTexts_6 : yes (funC Tryz.prog xb ext 100000 3 [.res .i64 22 6] (memOf vars) fun v m => some (v, m)) = true := by kernel_rfl
theorem v_ShowTexts_7 : yes (funC Tryz.prog xb ext 100000 3 [.res .i64 22 7] (memOf vars) fun v m => some (v, m)) = true := by kernel_rfl
theorem v_ShowTexts_8 : yes (funC Tryz.prog xb ext 100000 3 [.res .i64 22 8] (memOf vars) fun v m => some (v, m)) = true := by kernel_rfl
theorem v_ShowTexts_9 : yes (funC Tryz.prog xb ext 100000 3 [.res .i64 22 9] (memOf vars) fun v m => some (v, m)) = true := by kernel_rfl
theorem v_ShowTexts_10 : yes (funC Tryz.prog xb ext 100000 3 [.res .i64 22 10] (memOf vars) fun v m => some (v, m)) = true := by kernel_rfl
theorem v_ShowTexts_11 : yes (funC Tryz.prog xb ext 100000 3 [.res .i64 22 11] (memOf vars) fun v m => some (v, m)) = true := by kernel_rfl
end Go.Proofs.YtoedpbjeangdhaaGreatDoor.Ev
