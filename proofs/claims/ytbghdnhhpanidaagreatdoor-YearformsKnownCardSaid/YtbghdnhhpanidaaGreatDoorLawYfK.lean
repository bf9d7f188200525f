/- Chapter 14: the closed law on years.
   Conditions: none. -/
import Derived.Test.YtbghdnhhpanidaaGreatDoorShY
import Derived.KernelRfl
namespace Go.Sh
open Go.Abs

theorem yearformsKnown_ok : circalaw14_YearformsKnown 100 = some true := by kernel_rfl

theorem yf_lives (m : Nat) : circalaw14_lives (m + 100) = some true := by kernel_rfl

end Go.Sh
