/- What the program's package-level variables hold when a function begins: in this seat nothing is asked.
   Conditions: none. -/
import Derived.Orders
namespace Go.Abs

def Gshape (L : List (Nat × Obj)) : Prop := L = []

end Go.Abs
