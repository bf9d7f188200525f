
import Derived.Test.YtadejcglcffgbabGreatDoorAbsX
import Derived.Lib.Join
set_option linter.unusedSimpArgs false
set_option linter.unusedVariables false
set_option linter.defProp false
namespace Go.Abs
open Go.RowKit
variable {P:Program}
def Below.fr{w w':World}(h:Below w.heap.size w w'):Fr ii w w':=⟨h.os,h.tape,h.output,h.size,λk A _=>h.block k A⟩
def nA{f:Nat}{args:List V}{H:List (Nat×Blk)}{fr:Nat}{v:V}{rd:List Nat}
  (h:∀(ι:Inj) (nb:Nat) (w:World) (d:Array Value),WR ι H nb w->GL ii w->VRs ι args d.toList->Calls P f d w λe w'=>∃x,e=.returned x/\VR ι v x/\Below w.heap.size w w'):
  CG P f args H fr { val:=v,rd:=rd }:=by
 intro ι nb w d c o _ _ hx;refine(h ι nb w d c (o.mono λb q h=>by cases h) hx).mono λe w' ⟨x,g,j,a⟩=>?_;subst g;have a:=Below.fr a;have m:=a.size;refine⟨ι,λ_ _ _=>rfl,λb q g=>by simp[isIn]at g,λb q g j=>by simp at j;omega,λ_ _ h _=>h,?_,?_,rfl,j⟩
 ·simp only[gP,pH];refine⟨c.inj,λb r i=>?_,λb r i=>?_,λb blk n p=>?_⟩
  ·have:=c.low b r i;omega
  ·have:=c.dom b r i;omega
  ·exact(c.blk b blk n p).map rfl (λq s=>a.blk q.r (c.dom b q s) (λ_ _ h=>by cases h)) (λ_ _ x=>x) (λ_ x=>x)
 ·exact⟨a.os,a.tape,a.output,a.size,λk l _=>a.blk k l (λ_ _ h=>by cases h)⟩
end Go.Abs
