/- Chapter 13: the law on spreading marks: three components, part 2.
   Conditions: none. -/
import Derived.Test.YtpbhbpjobkdgmaaLawSpA
set_option linter.unusedSimpArgs false
set_option linter.unusedVariables false
set_option maxRecDepth 100000
namespace Go.Sh
open Go.Abs

theorem sp3_20 : allN (fun z => allN (fun u => allN (fun v => allN (fun w => isT (coreMarksSpread (some true) 5000 [2, 0, z] [u, v, w] 3)) 4) 4) 4) 4 = true := by kernel_rfl
theorem sp3_21 : allN (fun z => allN (fun u => allN (fun v => allN (fun w => isT (coreMarksSpread (some true) 5000 [2, 1, z] [u, v, w] 3)) 4) 4) 4) 4 = true := by kernel_rfl
theorem sp3_22 : allN (fun z => allN (fun u => allN (fun v => allN (fun w => isT (coreMarksSpread (some true) 5000 [2, 2, z] [u, v, w] 3)) 4) 4) 4) 4 = true := by kernel_rfl
theorem sp3_23 : allN (fun z => allN (fun u => allN (fun v => allN (fun w => isT (coreMarksSpread (some true) 5000 [2, 3, z] [u, v, w] 3)) 4) 4) 4) 4 = true := by kernel_rfl
end Go.Sh
