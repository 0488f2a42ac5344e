/- Several texts in one: contracts of functions of the program, and what they lean on. In part written by a program of this session over the kit's print, in part by hand. -/
import Derived.Test.YtjiefihmlhpcmaaDoorYShowForms4
namespace Go.Proofs.YtjiefihmlhpcmaaDoor.Ev
open Go Go.Ev
set_option linter.unusedVariables false
theorem v_ShowForms_1_40 : yes (funC Tryd.prog xb ext 100000 3 [.res .i64 2 1, .res .i64 64 40] (memOf vars) fun v m => some (v, m)) = true := by kernel_rfl
theorem v_ShowForms_1_41 : yes (funC Tryd.prog xb ext 100000 3 [.res .i64 2 1, .res .i64 64 41] (memOf vars) fun v m => some (v, m)) = true := by kernel_rfl
theorem v_ShowForms_1_42 : yes (funC Tryd.prog xb ext 100000 3 [.res .i64 2 1, .res .i64 64 42] (memOf vars) fun v m => some (v, m)) = true := by kernel_rfl
theorem v_ShowForms_1_43 : yes (funC Tryd.prog xb ext 100000 3 [.res .i64 2 1, .res .i64 64 43] (memOf vars) fun v m => some (v, m)) = true := by kernel_rfl
theorem v_ShowForms_1_44 : yes (funC Tryd.prog xb ext 100000 3 [.res .i64 2 1, .res .i64 64 44] (memOf vars) fun v m => some (v, m)) = true := by kernel_rfl
theorem v_ShowForms_1_45 : yes (funC Tryd.prog xb ext 100000 3 [.res .i64 2 1, .res .i64 64 45] (memOf vars) fun v m => some (v, m)) = true := by kernel_rfl
theorem v_ShowForms_1_46 : yes (funC Tryd.prog xb ext 100000 3 [.res .i64 2 1, .res .i64 64 46] (memOf vars) fun v m => some (v, m)) = true := by kernel_rfl
theorem v_ShowForms_1_47 : yes (funC Tryd.prog xb ext 100000 3 [.res .i64 2 1, .res .i64 64 47] (memOf vars) fun v m => some (v, m)) = true := by kernel_rfl
end Go.Proofs.YtjiefihmlhpcmaaDoor.Ev
