/- Several texts in one: contracts of functions of the program, and what they lean on. In part written by a program of this session over the kit's print, in part by hand. -/
import Derived.Test.YtjiefihmlhpcmaaDoorYShowForms4
namespace Go.Proofs.YtjiefihmlhpcmaaDoor.Ev
open Go Go.Ev
set_option linter.unusedVariables false
theorem v_ShowForms_0_24 : yes (funC Tryd.prog xb ext 100000 3 [.res .i64 2 0, .res .i64 64 24] (memOf vars) fun v m => some (v, m)) = true := by kernel_rfl
theorem v_ShowForms_0_25 : yes (funC Tryd.prog xb ext 100000 3 [.res .i64 2 0, .res .i64 64 25] (memOf vars) fun v m => some (v, m)) = true := by kernel_rfl
theorem v_ShowForms_0_26 : yes (funC Tryd.prog xb ext 100000 3 [.res .i64 2 0, .res .i64 64 26] (memOf vars) fun v m => some (v, m)) = true := by kernel_rfl
theorem v_ShowForms_0_27 : yes (funC Tryd.prog xb ext 100000 3 [.res .i64 2 0, .res .i64 64 27] (memOf vars) fun v m => some (v, m)) = true := by kernel_rfl
theorem v_ShowForms_0_28 : yes (funC Tryd.prog xb ext 100000 3 [.res .i64 2 0, .res .i64 64 28] (memOf vars) fun v m => some (v, m)) = true := by kernel_rfl
theorem v_ShowForms_0_29 : yes (funC Tryd.prog xb ext 100000 3 [.res .i64 2 0, .res .i64 64 29] (memOf vars) fun v m => some (v, m)) = true := by kernel_rfl
theorem v_ShowForms_0_30 : yes (funC Tryd.prog xb ext 100000 3 [.res .i64 2 0, .res .i64 64 30] (memOf vars) fun v m => some (v, m)) = true := by kernel_rfl
theorem v_ShowForms_0_31 : yes (funC Tryd.prog xb ext 100000 3 [.res .i64 2 0, .res .i64 64 31] (memOf vars) fun v m => some (v, m)) = true := by kernel_rfl
end Go.Proofs.YtjiefihmlhpcmaaDoor.Ev
