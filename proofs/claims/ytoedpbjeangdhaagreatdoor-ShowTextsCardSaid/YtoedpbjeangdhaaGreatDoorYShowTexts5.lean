/- Several texts in one: contracts of functions of the program, and what they lean on. In part written by a program of this session over the kit's print, in part by hand. -/
import Derived.Test.YtoedpbjeangdhaaGreatDoorYShowTexts4
namespace Go.Proofs.YtoedpbjeangdhaaGreatDoor.Ev
open Go Go.Ev
set_option linter.unusedVariables false
theorem v_ShowTexts_0 : yes (funC Tryz.prog xb ext 100000 3 [.res .i64 22 0] (memOf vars) fun v m => some (v, m)) = true := by kernel_rfl
theorem v_ShowTexts_1 : yes (funC Tryz.prog xb ext 100000 3 [.res .i64 22 1] (memOf vars) fun v m => some (v, m)) = true := by kernel_rfl
theorem v_ShowTexts_2 : yes (funC Tryz.prog xb ext 100000 3 [.res .i64 22 2] (memOf vars) fun v m => some (v, m)) = true := by kernel_rfl
theorem v_ShowTexts_3 : yes (funC Tryz.prog xb ext 100000 3 [.res .i64 22 3] (memOf vars) fun v m => some (v, m)) = true := by kernel_rfl
theorem v_ShowTexts_4 : yes (funC Tryz.prog xb ext 100000 3 [.res .i64 22 4] (memOf vars) fun v m => some (v, m)) = true := by kernel_rfl
theorem v_ShowTexts_5 : yes (funC Tryz.prog xb ext 100000 3 [.res .i64 22 5] (memOf vars) fun v m => some (v, m)) = true := by kernel_rfl
end Go.Proofs.YtoedpbjeangdhaaGreatDoor.Ev
