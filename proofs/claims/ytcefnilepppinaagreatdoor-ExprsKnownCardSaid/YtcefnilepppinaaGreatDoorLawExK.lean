/- Chapter 18: the closed law on expressions.
   Conditions: none. -/
import Derived.Test.YtcefnilepppinaaGreatDoorShX
import Derived.KernelRfl
set_option maxRecDepth 100000
namespace Go.Sh
open Go.Abs

theorem exprsKnown_ok : circalaw18_ExprsKnown 300 = some true := by kernel_rfl

theorem ex_lives (m : Nat) : circalaw18_lives (m + 100) = some true := by kernel_rfl

end Go.Sh
