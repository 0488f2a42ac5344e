/- Several texts in one: contracts of functions of the program, and what they lean on. In part written by a program of this session over the kit's print, in part by hand. -/
import Derived.Test.YtjiefihmlhpcmaaDoorYShowForms4
namespace Go.Proofs.YtjiefihmlhpcmaaDoor.Ev
open Go Go.Ev
set_option linter.unusedVariables false
theorem v_ShowForms_1_16 : yes (funC Tryd.prog xb ext 100000 3 [.res .i64 2 1, .res .i64 64 16] (memOf vars) fun v m => some (v, m)) = true := by kernel_rfl
theorem v_ShowForms_1_17 : yes (funC Tryd.prog xb ext 100000 3 [.res .i64 2 1, .res .i64 64 17] (memOf vars) fun v m => some (v, m)) = true := by kernel_rfl
theorem v_ShowForms_1_18 : yes (funC Tryd.prog xb ext 100000 3 [.res .i64 2 1, .res .i64 64 18] (memOf vars) fun v m => some (v, m)) = true := by kernel_rfl
theorem v_ShowForms_1_19 : yes (funC Tryd.prog xb ext 100000 3 [.res .i64 2 1, .res .i64 64 19] (memOf vars) fun v m => some (v, m)) = true := by kernel_rfl
theorem v_ShowForms_1_20 : yes (funC Tryd.prog xb ext 100000 3 [.res .i64 2 1, .res .i64 64 20] (memOf vars) fun v m => some (v, m)) = true := by kernel_rfl
theorem v_ShowForms_1_21 : yes (funC Tryd.prog xb ext 100000 3 [.res .i64 2 1, .res .i64 64 21] (memOf vars) fun v m => some (v, m)) = true := by kernel_rfl
theorem v_ShowForms_1_22 : yes (funC Tryd.prog xb ext 100000 3 [.res .i64 2 1, .res .i64 64 22] (memOf vars) fun v m => some (v, m)) = true := by kernel_rfl
theorem v_ShowForms_1_23 : yes (funC Tryd.prog xb ext 100000 3 [.res .i64 2 1, .res .i64 64 23] (memOf vars) fun v m => some (v, m)) = true := by kernel_rfl
end Go.Proofs.YtjiefihmlhpcmaaDoor.Ev
