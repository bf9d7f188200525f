/- Chapter 15: the closed law: rounds.
   Conditions: none. -/
import Derived.Test.YtldcbkbengjdiaaGreatDoorLawDfK0
import Derived.KernelRfl
set_option maxRecDepth 100000
namespace Go.Sh
open Go.Abs

theorem dfk_e : ((List.range 8).all fun j => dfk_chk2 (0 + j)) = true := by kernel_rfl

end Go.Sh
