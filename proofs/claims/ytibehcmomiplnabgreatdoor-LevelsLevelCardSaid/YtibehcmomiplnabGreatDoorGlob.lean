import Derived.Orders
import Derived.Lib.DecodeN
namespace Go.Abs
def vb:List Int:=[3,3,6,3,9,3,12,3,3,3,6,3,9,3,12,3,9,3,12,3,3,3,6,3,1,3,4,3,7,3,10,3,1,4,5,4,9,4,1,6,7,6]
def Lj:List Int:=[31,28,31,30,31,30,31,31,30,31,30,31]
def Ll:List Int:=[4,1,100,-1,400,1]
def Ju(cs:Array Value)(o:Nat)(l:List Int):Prop:=∀(i:Nat) (z:Int),l[i]?=some z->cs[o+i]?=some (.int .i64 z)
def abg(c d:Array Value):Prop:=(∀i:Nat,i<256->c[i]?=some (.int .u8 (Lib.firstT i)))/\∀i:Nat,i<16->d[i*2]?=some (.int .u8 (Lib.accLo i))/\d[i*2+1]?=some (.int .u8 (Lib.accHi i))
def Y7(L:List (Nat×Obj)):Prop:=
 ∃(c0 c1 c2 c3:Array Value) (t0 t1 t2 t3:TypeId) (b o:Nat),(∃(c4:Array Value) (t4:TypeId) (te:TypeId×(Array Value×TypeId)×(Array Value×TypeId)) (pe:Value),L=[(3,.cells c0 t0 (0,0)),(4,.cells c1 t1 (0,0)),(5,.cells c2 t2 (0,0)),(b,.cells c3 t3 (0,0)),(0,.cells c4 t4 (0,0)),(7,.cells te.2.1.1 te.2.1.2 (0,0)),(8,.cells te.2.2.1 te.2.2.2 (0,0))]/\c4[0]?=some (.iface te.1 pe)/\abg te.2.1.1 te.2.2.1)/\
  Ju c0 0 vb/\Ju c1 0 Lj/\c2[0]?=some (.slice (some ⟨b,o,none⟩) 3 3)/\Ju c3 o Ll
end Go.Abs
