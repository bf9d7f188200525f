/- Chapter 15: the closed law: rounds.
   Conditions: none. -/
import Derived.Test.YtldcbkbengjdiaaGreatDoorLawDfK0
import Derived.KernelRfl
set_option maxRecDepth 100000
namespace Go.Sh
open Go.Abs

theorem dfk_j : ((List.range 64).all fun j => dfk_chk4 (128 + j)) = true := by kernel_rfl

end Go.Sh
