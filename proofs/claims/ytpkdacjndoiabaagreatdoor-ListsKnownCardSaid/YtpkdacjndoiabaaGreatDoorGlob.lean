/- What the program's package-level variables hold when a function begins: the tables of seasons, months and leap years.
   (The numbers of the variables are the seat's: G0 spans, G1 lengths, G2 steps, G3 strconv.ErrSyntax; filled in by b.sh from the environment.)
   Conditions: none. -/
import Derived.Orders
namespace Go.Abs
def rH:List Int:=[3,3,6,3,9,3,12,3,3,3,6,3,9,3,12,3,9,3,12,3,3,3,6,3,1,3,4,3,7,3,10,3,1,4,5,4,9,4,1,6,7,6]
def FP:List Int:=[31,28,31,30,31,30,31,31,30,31,30,31]
def FI:List Int:=[4,1,100,-1,400,1]
def FT (cs:Array Value) (o:Nat) (l:List Int):Prop:=∀(i:Nat) (z:Int),l[i]?=some z->cs[o+i]?=some (.int .i64 z)
def TQ (L:List (Nat×Obj)):Prop:=
 ∃(c0 c1 c2 c3:Array Value) (t0 t1 t2 t3:TypeId) (b o:Nat),(∃(c4:Array Value) (t4 te:TypeId) (pe:Value),L=[(1,.cells c0 t0 (0,0)),(2,.cells c1 t1 (0,0)),(6,.cells c2 t2 (0,0)),(b,.cells c3 t3 (0,0)),(3,.cells c4 t4 (0,0))]/\c4[0]?=some (.iface te pe))/\
  FT c0 0 rH/\FT c1 0 FP/\c2[0]?=some (.slice (some ⟨b,o,none⟩) 3 3)/\FT c3 o FI
end Go.Abs
