/- Several texts in one: contracts of functions of the program, and what they lean on. In part written by a program of this session over the kit's print, in part by hand. -/
import Derived.Test.YtjiefihmlhpcmaaDoorYShowForms4
namespace Go.Proofs.YtjiefihmlhpcmaaDoor.Ev
open Go Go.Ev
set_option linter.unusedVariables false
theorem v_ShowForms_1_8 : yes (funC Tryd.prog xb ext 100000 3 [.res .i64 2 1, .res .i64 64 8] (memOf vars) fun v m => some (v, m)) = true := by kernel_rfl
theorem v_ShowForms_1_9 : yes (funC Tryd.prog xb ext 100000 3 [.res .i64 2 1, .res .i64 64 9] (memOf vars) fun v m => some (v, m)) = true := by kernel_rfl
theorem v_ShowForms_1_10 : yes (funC Tryd.prog xb ext 100000 3 [.res .i64 2 1, .res .i64 64 10] (memOf vars) fun v m => some (v, m)) = true := by kernel_rfl
theorem v_ShowForms_1_11 : yes (funC Tryd.prog xb ext 100000 3 [.res .i64 2 1, .res .i64 64 11] (memOf vars) fun v m => some (v, m)) = true := by kernel_rfl
theorem v_ShowForms_1_12 : yes (funC Tryd.prog xb ext 100000 3 [.res .i64 2 1, .res .i64 64 12] (memOf vars) fun v m => some (v, m)) = true := by kernel_rfl
theorem v_ShowForms_1_13 : yes (funC Tryd.prog xb ext 100000 3 [.res .i64 2 1, .res .i64 64 13] (memOf vars) fun v m => some (v, m)) = true := by kernel_rfl
theorem v_ShowForms_1_14 : yes (funC Tryd.prog xb ext 100000 3 [.res .i64 2 1, .res .i64 64 14] (memOf vars) fun v m => some (v, m)) = true := by kernel_rfl
theorem v_ShowForms_1_15 : yes (funC Tryd.prog xb ext 100000 3 [.res .i64 2 1, .res .i64 64 15] (memOf vars) fun v m => some (v, m)) = true := by kernel_rfl
end Go.Proofs.YtjiefihmlhpcmaaDoor.Ev
