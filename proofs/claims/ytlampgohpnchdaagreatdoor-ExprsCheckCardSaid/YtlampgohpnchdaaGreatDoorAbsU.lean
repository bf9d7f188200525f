/- Functions that defer a closure: what they come to.
   Conditions: none; generic over the program. -/
import Derived.Test.YtlampgohpnchdaaGreatDoorAbsP
import Derived.Recover
namespace Go.Abs
variable {P:Program}
end Go.Abs
