/- Opening a law's arguments: arrays of integers.
   Conditions: none; generic over the program. -/
import Derived.Test.YtpkdacjndoiabaaGreatDoorAbsR
import Derived.OpenShut
import Derived.WideShapes
set_option linter.unusedSimpArgs false
namespace Go.Abs
open Go.RowKit Go.ChangeShapes Go.WideShapes
end Go.Abs
