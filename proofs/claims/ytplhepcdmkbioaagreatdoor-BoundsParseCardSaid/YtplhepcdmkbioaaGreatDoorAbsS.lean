/- Opening a law's arguments: arrays of integers.
   Conditions: none; generic over the program. -/
import Derived.Test.YtplhepcdmkbioaaGreatDoorAbsR
import Derived.OpenShut
import Derived.WideShapes
namespace Go.Abs
open Go.RowKit Go.ChangeShapes Go.WideShapes
end Go.Abs
