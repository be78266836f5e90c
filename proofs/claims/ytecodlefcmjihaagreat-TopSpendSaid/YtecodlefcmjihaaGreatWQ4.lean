/- Trimmed by wip/trim.py to what this claim rests on. -/
import Derived.Test.YtecodlefcmjihaaGreatWB11
namespace Go.Proofs.YtecodlefcmjihaaGreat
open Go.RowKit
abbrev E4 : FuncId := 52
theorem DJ : AA Tryz.prog 52 = true := by kernel_rfl
abbrev Gc : FuncId := 82
theorem Hd : AA Tryz.prog 82 = true := by kernel_rfl
abbrev EE : FuncId := 87
theorem C2 : AA Tryz.prog 87 = true := by kernel_rfl
end Go.Proofs.YtecodlefcmjihaaGreat
