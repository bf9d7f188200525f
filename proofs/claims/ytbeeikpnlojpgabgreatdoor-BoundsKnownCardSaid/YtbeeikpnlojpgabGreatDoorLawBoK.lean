/- Chapter 17: the closed law, asked of the kernel.
   Conditions: none. -/
import Derived.Test.YtbeeikpnlojpgabGreatDoorShB
import Derived.KernelRfl
namespace Go.Sh
open Go.Abs

theorem boundsKnown_ok : circalaw17_BoundsKnown 20000000 = some true := by kernel_rfl

end Go.Sh
