/- Several texts in one: contracts of functions of the program, and what they lean on. In part written by a program of this session over the kit's print, in part by hand. -/
import Derived.Test.YtjiefihmlhpcmaaDoorYShowForms4
namespace Go.Proofs.YtjiefihmlhpcmaaDoor.Ev
open Go Go.Ev
set_option linter.unusedVariables false
theorem v_ShowForms_0_32 : yes (funC Tryd.prog xb ext 100000 3 [.res .i64 2 0, .res .i64 64 32] (memOf vars) fun v m => some (v, m)) = true := by kernel_rfl
theorem v_ShowForms_0_33 : yes (funC Tryd.prog xb ext 100000 3 [.res .i64 2 0, .res .i64 64 33] (memOf vars) fun v m => some (v, m)) = true := by kernel_rfl
theorem v_ShowForms_0_34 : yes (funC Tryd.prog xb ext 100000 3 [.res .i64 2 0, .res .i64 64 34] (memOf vars) fun v m => some (v, m)) = true := by kernel_rfl
theorem v_ShowForms_0_35 : yes (funC Tryd.prog xb ext 100000 3 [.res .i64 2 0, .res .i64 64 35] (memOf vars) fun v m => some (v, m)) = true := by kernel_rfl
theorem v_ShowForms_0_36 : yes (funC Tryd.prog xb ext 100000 3 [.res .i64 2 0, .res .i64 64 36] (memOf vars) fun v m => some (v, m)) = true := by kernel_rfl
theorem v_ShowForms_0_37 : yes (funC Tryd.prog xb ext 100000 3 [.res .i64 2 0, .res .i64 64 37] (memOf vars) fun v m => some (v, m)) = true := by kernel_rfl
theorem v_ShowForms_0_38 : yes (funC Tryd.prog xb ext 100000 3 [.res .i64 2 0, .res .i64 64 38] (memOf vars) fun v m => some (v, m)) = true := by kernel_rfl
theorem v_ShowForms_0_39 : yes (funC Tryd.prog xb ext 100000 3 [.res .i64 2 0, .res .i64 64 39] (memOf vars) fun v m => some (v, m)) = true := by kernel_rfl
end Go.Proofs.YtjiefihmlhpcmaaDoor.Ev
