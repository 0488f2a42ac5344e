/- Several texts in one: contracts of functions of the program, and what they lean on. In part written by a program of this session over the kit's print, in part by hand. -/
import Derived.Test.YtjiefihmlhpcmaaDoorYShowForms4
namespace Go.Proofs.YtjiefihmlhpcmaaDoor.Ev
open Go Go.Ev
set_option linter.unusedVariables false
theorem v_ShowForms_1_48 : yes (funC Tryd.prog xb ext 100000 3 [.res .i64 2 1, .res .i64 64 48] (memOf vars) fun v m => some (v, m)) = true := by kernel_rfl
theorem v_ShowForms_1_49 : yes (funC Tryd.prog xb ext 100000 3 [.res .i64 2 1, .res .i64 64 49] (memOf vars) fun v m => some (v, m)) = true := by kernel_rfl
theorem v_ShowForms_1_50 : yes (funC Tryd.prog xb ext 100000 3 [.res .i64 2 1, .res .i64 64 50] (memOf vars) fun v m => some (v, m)) = true := by kernel_rfl
theorem v_ShowForms_1_51 : yes (funC Tryd.prog xb ext 100000 3 [.res .i64 2 1, .res .i64 64 51] (memOf vars) fun v m => some (v, m)) = true := by kernel_rfl
theorem v_ShowForms_1_52 : yes (funC Tryd.prog xb ext 100000 3 [.res .i64 2 1, .res .i64 64 52] (memOf vars) fun v m => some (v, m)) = true := by kernel_rfl
theorem v_ShowForms_1_53 : yes (funC Tryd.prog xb ext 100000 3 [.res .i64 2 1, .res .i64 64 53] (memOf vars) fun v m => some (v, m)) = true := by kernel_rfl
theorem v_ShowForms_1_54 : yes (funC Tryd.prog xb ext 100000 3 [.res .i64 2 1, .res .i64 64 54] (memOf vars) fun v m => some (v, m)) = true := by kernel_rfl
theorem v_ShowForms_1_55 : yes (funC Tryd.prog xb ext 100000 3 [.res .i64 2 1, .res .i64 64 55] (memOf vars) fun v m => some (v, m)) = true := by kernel_rfl
end Go.Proofs.YtjiefihmlhpcmaaDoor.Ev
