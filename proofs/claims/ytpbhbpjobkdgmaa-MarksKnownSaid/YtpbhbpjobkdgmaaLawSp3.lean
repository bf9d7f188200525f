/- Chapter 13: the law on spreading marks: three components, part 3.
   Conditions: none. -/
import Derived.Test.YtpbhbpjobkdgmaaLawSpA
set_option linter.unusedSimpArgs false
set_option linter.unusedVariables false
set_option maxRecDepth 100000
namespace Go.Sh
open Go.Abs

theorem sp3_30 : allN (fun z => allN (fun u => allN (fun v => allN (fun w => isT (coreMarksSpread (some true) 5000 [3, 0, z] [u, v, w] 3)) 4) 4) 4) 4 = true := by kernel_rfl
theorem sp3_31 : allN (fun z => allN (fun u => allN (fun v => allN (fun w => isT (coreMarksSpread (some true) 5000 [3, 1, z] [u, v, w] 3)) 4) 4) 4) 4 = true := by kernel_rfl
theorem sp3_32 : allN (fun z => allN (fun u => allN (fun v => allN (fun w => isT (coreMarksSpread (some true) 5000 [3, 2, z] [u, v, w] 3)) 4) 4) 4) 4 = true := by kernel_rfl
theorem sp3_33 : allN (fun z => allN (fun u => allN (fun v => allN (fun w => isT (coreMarksSpread (some true) 5000 [3, 3, z] [u, v, w] 3)) 4) 4) 4) 4 = true := by kernel_rfl
end Go.Sh
