import Derived.Orders
import Derived.Lib.DecodeN
import Derived.Lib.ItoaNum
namespace Go.Abs
def nG:List Int:=[3,3,6,3,9,3,12,3,3,3,6,3,9,3,12,3,9,3,12,3,3,3,6,3,1,3,4,3,7,3,10,3,1,4,5,4,9,4,1,6,7,6]
def AV:List Int:=[31,28,31,30,31,30,31,31,30,31,30,31]
def Am:List Int:=[4,1,100,-1,400,1]
def BA(cs:Array Value)(o:Nat)(l:List Int):Prop:=∀(i:Nat) (z:Int),l[i]?=some z->cs[o+i]?=some (.int .i64 z)
def LN(c d:Array Value):Prop:=(∀i:Nat,i<256->c[i]?=some (.int .u8 (Lib.firstT i)))/\∀i:Nat,i<16->d[i*2]?=some (.int .u8 (Lib.accLo i))/\d[i*2+1]?=some (.int .u8 (Lib.accHi i))
def MA(L:List (Nat×Obj)):Prop:=
 ∃(c0 c1 c2 c3:Array Value) (t0 t1 t2 t3:TypeId) (b o:Nat),(∃(c4:Array Value) (t4:TypeId) (te:TypeId×(Array Value×TypeId)×(Array Value×TypeId×({ c:Array Value // c=(Lib.pow10Tab.map λz=>Value.int .u64 z).toArray }×TypeId))) (pe:Value),L=[(4,.cells c0 t0 (0,0)),(0,.cells c1 t1 (0,0)),(5,.cells c2 t2 (0,0)),(b,.cells c3 t3 (0,0)),(2,.cells c4 t4 (0,0)),(9,.cells te.2.1.1 te.2.1.2 (0,0)),(10,.cells te.2.2.1 te.2.2.2.1 (0,0)),(6,.cells te.2.2.2.2.1.1 te.2.2.2.2.2 (0,0))]/\c4[0]?=some (.iface te.1 pe)/\LN te.2.1.1 te.2.2.1)/\
  BA c0 0 nG/\BA c1 0 AV/\c2[0]?=some (.slice (some ⟨b,o,none⟩) 3 3)/\BA c3 o Am
end Go.Abs
