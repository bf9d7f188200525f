/- The text of a year: the walk of yearforms.Text, which writes to a strings.Builder.
   Conditions: none. -/
import Derived.Test.YtfchdhhkohmedaaGreatDoorCeB
import Derived.Test.YtfchdhhkohmedaaGreatDoorShelf
import Derived.WalkKit
import Derived.BigCall
import Derived.StillTailTactics
set_option linter.unusedVariables false
set_option maxRecDepth 100000
namespace Go.Sh
open Go.Abs Go.Proofs Go.RowKit
end Go.Sh
