
import Derived.Test.YtibehcmomiplnabGreatDoorAbsR
import Derived.OpenShut
import Derived.WideShapes
set_option linter.all false
namespace Go.Abs
open Go.RowKit Go.ChangeShapes Go.WideShapes
end Go.Abs
