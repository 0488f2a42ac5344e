/- Several texts in one: contracts of functions of the program, and what they lean on. In part written by a program of this session over the kit's print, in part by hand. -/
import Derived.Test.YtoedpbjeangdhaaGreatDoorYShowTexts4
namespace Go.Proofs.YtoedpbjeangdhaaGreatDoor.Ev
open Go Go.Ev
set_option linter.unusedVariables false
theorem v_ShowTexts_18 : yes (funC Tryz.prog xb ext 100000 3 [.res .i64 22 18] (memOf vars) fun v m => some (v, m)) = true := by kernel_rfl
theorem v_ShowTexts_19 : yes (funC Tryz.prog xb ext 100000 3 [.res .i64 22 19] (memOf vars) fun v m => some (v, m)) = true := by kernel_rfl
theorem v_ShowTexts_20 : yes (funC Tryz.prog xb ext 100000 3 [.res .i64 22 20] (memOf vars) fun v m => some (v, m)) = true := by kernel_rfl
theorem v_ShowTexts_21 : yes (funC Tryz.prog xb ext 100000 3 [.res .i64 22 21] (memOf vars) fun v m => some (v, m)) = true := by kernel_rfl
end Go.Proofs.YtoedpbjeangdhaaGreatDoor.Ev
