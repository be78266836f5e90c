/- Trimmed by wip/trim.py to what this claim rests on. -/
import Derived.Test.YtecodlefcmjihaaGreatWB11
namespace Go.Proofs.YtecodlefcmjihaaGreat
open Go.RowKit
abbrev N_slices_SortFunc_api_Visit : FuncId := 52
theorem M_slices_SortFunc_api_Visit_enter : enterB Tryz.prog 52 = true := by kernel_rfl
abbrev N_slices_Sort_int : FuncId := 82
theorem M_slices_Sort_int_enter : enterB Tryz.prog 82 = true := by kernel_rfl
abbrev N_slices_SortFunc_queue_stand : FuncId := 87
theorem M_slices_SortFunc_queue_stand_enter : enterB Tryz.prog 87 = true := by kernel_rfl
end Go.Proofs.YtecodlefcmjihaaGreat
