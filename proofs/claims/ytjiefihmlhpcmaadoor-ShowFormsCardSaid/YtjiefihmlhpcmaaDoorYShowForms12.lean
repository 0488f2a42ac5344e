/- Several texts in one: contracts of functions of the program, and what they lean on. In part written by a program of this session over the kit's print, in part by hand. -/
import Derived.Test.YtjiefihmlhpcmaaDoorYShowForms4
namespace Go.Proofs.YtjiefihmlhpcmaaDoor.Ev
open Go Go.Ev
set_option linter.unusedVariables false
theorem v_ShowForms_0_56 : yes (funC Tryd.prog xb ext 100000 3 [.res .i64 2 0, .res .i64 64 56] (memOf vars) fun v m => some (v, m)) = true := by kernel_rfl
theorem v_ShowForms_0_57 : yes (funC Tryd.prog xb ext 100000 3 [.res .i64 2 0, .res .i64 64 57] (memOf vars) fun v m => some (v, m)) = true := by kernel_rfl
theorem v_ShowForms_0_58 : yes (funC Tryd.prog xb ext 100000 3 [.res .i64 2 0, .res .i64 64 58] (memOf vars) fun v m => some (v, m)) = true := by kernel_rfl
theorem v_ShowForms_0_59 : yes (funC Tryd.prog xb ext 100000 3 [.res .i64 2 0, .res .i64 64 59] (memOf vars) fun v m => some (v, m)) = true := by kernel_rfl
theorem v_ShowForms_0_60 : yes (funC Tryd.prog xb ext 100000 3 [.res .i64 2 0, .res .i64 64 60] (memOf vars) fun v m => some (v, m)) = true := by kernel_rfl
theorem v_ShowForms_0_61 : yes (funC Tryd.prog xb ext 100000 3 [.res .i64 2 0, .res .i64 64 61] (memOf vars) fun v m => some (v, m)) = true := by kernel_rfl
theorem v_ShowForms_0_62 : yes (funC Tryd.prog xb ext 100000 3 [.res .i64 2 0, .res .i64 64 62] (memOf vars) fun v m => some (v, m)) = true := by kernel_rfl
theorem v_ShowForms_0_63 : yes (funC Tryd.prog xb ext 100000 3 [.res .i64 2 0, .res .i64 64 63] (memOf vars) fun v m => some (v, m)) = true := by kernel_rfl
end Go.Proofs.YtjiefihmlhpcmaaDoor.Ev
