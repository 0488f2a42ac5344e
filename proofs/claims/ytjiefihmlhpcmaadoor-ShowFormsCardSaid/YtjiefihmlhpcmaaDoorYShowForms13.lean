/- Several texts in one: contracts of functions of the program, and what they lean on. In part written by a program of this session over the kit's print, in part by hand. -/
import Derived.Test.YtjiefihmlhpcmaaDoorYShowForms4
namespace Go.Proofs.YtjiefihmlhpcmaaDoor.Ev
open Go Go.Ev
set_option linter.unusedVariables false
theorem v_ShowForms_1_0 : yes (funC Tryd.prog xb ext 100000 3 [.res .i64 2 1, .res .i64 64 0] (memOf vars) fun v m => some (v, m)) = true := by kernel_rfl
theorem v_ShowForms_1_1 : yes (funC Tryd.prog xb ext 100000 3 [.res .i64 2 1, .res .i64 64 1] (memOf vars) fun v m => some (v, m)) = true := by kernel_rfl
theorem v_ShowForms_1_2 : yes (funC Tryd.prog xb ext 100000 3 [.res .i64 2 1, .res .i64 64 2] (memOf vars) fun v m => some (v, m)) = true := by kernel_rfl
theorem v_ShowForms_1_3 : yes (funC Tryd.prog xb ext 100000 3 [.res .i64 2 1, .res .i64 64 3] (memOf vars) fun v m => some (v, m)) = true := by kernel_rfl
theorem v_ShowForms_1_4 : yes (funC Tryd.prog xb ext 100000 3 [.res .i64 2 1, .res .i64 64 4] (memOf vars) fun v m => some (v, m)) = true := by kernel_rfl
theorem v_ShowForms_1_5 : yes (funC Tryd.prog xb ext 100000 3 [.res .i64 2 1, .res .i64 64 5] (memOf vars) fun v m => some (v, m)) = true := by kernel_rfl
theorem v_ShowForms_1_6 : yes (funC Tryd.prog xb ext 100000 3 [.res .i64 2 1, .res .i64 64 6] (memOf vars) fun v m => some (v, m)) = true := by kernel_rfl
theorem v_ShowForms_1_7 : yes (funC Tryd.prog xb ext 100000 3 [.res .i64 2 1, .res .i64 64 7] (memOf vars) fun v m => some (v, m)) = true := by kernel_rfl
end Go.Proofs.YtjiefihmlhpcmaaDoor.Ev
