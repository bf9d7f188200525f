/- Chapter 13: the law on spreading marks: three components, part 0.
   Conditions: none. -/
import Derived.Test.YtpbhbpjobkdgmaaLawSpA
set_option linter.unusedSimpArgs false
set_option linter.unusedVariables false
set_option maxRecDepth 100000
namespace Go.Sh
open Go.Abs

theorem sp3_00 : allN (fun z => allN (fun u => allN (fun v => allN (fun w => isT (coreMarksSpread (some true) 5000 [0, 0, z] [u, v, w] 3)) 4) 4) 4) 4 = true := by kernel_rfl
theorem sp3_01 : allN (fun z => allN (fun u => allN (fun v => allN (fun w => isT (coreMarksSpread (some true) 5000 [0, 1, z] [u, v, w] 3)) 4) 4) 4) 4 = true := by kernel_rfl
theorem sp3_02 : allN (fun z => allN (fun u => allN (fun v => allN (fun w => isT (coreMarksSpread (some true) 5000 [0, 2, z] [u, v, w] 3)) 4) 4) 4) 4 = true := by kernel_rfl
theorem sp3_03 : allN (fun z => allN (fun u => allN (fun v => allN (fun w => isT (coreMarksSpread (some true) 5000 [0, 3, z] [u, v, w] 3)) 4) 4) 4) 4 = true := by kernel_rfl
end Go.Sh
