
import Derived.Test.YtadejcglcffgbabGreatDoorAbsP
import Derived.Recover
set_option linter.unusedSimpArgs false
set_option linter.unusedVariables false
set_option linter.defProp false
namespace Go.Abs
variable {P:Program}
end Go.Abs
