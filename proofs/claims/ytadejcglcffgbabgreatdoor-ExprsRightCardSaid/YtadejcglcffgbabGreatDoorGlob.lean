import Derived.Orders
namespace Go.Abs
def og:List Int:=[3,3,6,3,9,3,12,3,3,3,6,3,9,3,12,3,9,3,12,3,3,3,6,3,1,3,4,3,7,3,10,3,1,4,5,4,9,4,1,6,7,6]
def Bm:List Int:=[31,28,31,30,31,30,31,31,30,31,30,31]
def BD:List Int:=[4,1,100,-1,400,1]
def Bi(cs:Array Value)(o:Nat)(l:List Int):Prop:=∀(i:Nat) (z:Int),l[i]?=some z->cs[o+i]?=some (.int .i64 z)
def NJ(L:List (Nat×Obj)):Prop:=
 ∃(c0 c1 c2 c3:Array Value) (t0 t1 t2 t3:TypeId) (b o:Nat),(∃(c4:Array Value) (t4 te:TypeId) (pe:Value),L=[(0,.cells c0 t0 (0,0)),(1,.cells c1 t1 (0,0)),(4,.cells c2 t2 (0,0)),(b,.cells c3 t3 (0,0)),(2,.cells c4 t4 (0,0))]/\c4[0]?=some (.iface te pe))/\
  Bi c0 0 og/\Bi c1 0 Bm/\c2[0]?=some (.slice (some ⟨b,o,none⟩) 3 3)/\Bi c3 o BD
end Go.Abs
