
import Derived.Test.YtjkmipianfkncaaGreatDoorAbsX
import Derived.Lib.Join
set_option linter.unusedSimpArgs false
set_option linter.unusedVariables false
set_option linter.defProp false
namespace Go.Abs
open Go.RowKit
variable {P:Program}
def Below.fr{w w':World}(h:Below w.heap.size w w'):Fr jG w w':=⟨h.os,h.tape,h.output,h.size,λk C _=>h.block k C⟩
def mg{f:Nat}{args:List V}{H:List (Nat×Blk)}{fr:Nat}{v:V}{rd:List Nat}
  (h:∀(ι:Inj) (nb:Nat) (w:World) (d:Array Value),WR ι H nb w->GL jG w->VRs ι args d.toList->Calls P f d w λe w'=>∃x,e=.returned x/\VR ι v x/\Below w.heap.size w w'):
  Gw P f args H fr { val:=v,rd:=rd }:=by
 intro ι nb w d c m _ _ hx;refine(h ι nb w d c (m.mono λb q h=>by cases h) hx).mono λe w' ⟨x,g,i,a⟩=>?_;subst g;have a:=Below.fr a;have o:=a.size;refine⟨ι,λ_ _ _=>rfl,λb q g=>by simp[isIn]at g,λb q g i=>by simp at i;omega,λ_ _ h _=>h,?_,?_,rfl,i⟩
 ·simp only[dI,tN];refine⟨c.inj,λb r j=>?_,λb r j=>?_,λb blk n hd=>?_⟩
  ·have:=c.low b r j;omega
  ·have:=c.dom b r j;omega
  ·exact(c.blk b blk n hd).map rfl (λq p=>a.blk q.r (c.dom b q p) (λ_ _ h=>by cases h)) (λ_ _ x=>x) (λ_ x=>x)
 ·exact⟨a.os,a.tape,a.output,a.size,λk l _=>a.blk k l (λ_ _ h=>by cases h)⟩
end Go.Abs
