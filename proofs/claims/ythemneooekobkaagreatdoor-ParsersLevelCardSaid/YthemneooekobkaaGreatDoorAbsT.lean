
/- Functions of the library that are met by a contract of the kit's shelf.
   Conditions: none; generic over the program. -/
import Derived.Test.YthemneooekobkaaGreatDoorAbsX
import Derived.Lib.Join
set_option linter.unusedSimpArgs false
set_option linter.unusedVariables false
namespace Go.Abs
open Go.RowKit
variable {P:Program}
theorem Below.fr {w w':World} (h:Below w.heap.size w w'):Fr iM w w':=⟨h.os,h.tape,h.output,h.size,λk C _=>h.block k C⟩
theorem kF {f:Nat} {args:List V} {H:List (Nat×Blk)} {fr:Nat} {v:V} {rd:List Nat}
  (h:∀(ι:Inj) (nb:Nat) (w:World) (d:Array Value),WR ι H nb w->GL iM w->VRs ι args d.toList->Calls P f d w λe w'=>∃x,e=.returned x/\VR ι v x/\Below w.heap.size w w'):
  Eb P f args H fr { val:=v,rd:=rd }:=by
 intro ι nb w d c n _ _ p;refine (h ι nb w d c (n.mono λb q h=>by cases h) p).mono λe w' ⟨x,g,i,a⟩=>?_;subst g;have a:=Below.fr a;have m:=a.size;refine ⟨ι,λ_ _ _=>rfl,λb q g=>by simp [isIn] at g,λb q g i=>by simp at i;omega,λ_ _ h _=>h,?_,?_,rfl,i⟩
 ·simp only [ek,rq];refine ⟨c.inj,λb r j=>?_,λb r j=>?_,λb blk t l=>?_⟩
  ·have:=c.low b r j;omega
  ·have:=c.dom b r j;omega
  ·exact (c.blk b blk t l).map rfl (λq o=>a.blk q.r (c.dom b q o) (λ_ _ h=>by cases h)) (λ_ _ x=>x) (λ_ x=>x)
 ·exact ⟨a.os,a.tape,a.output,a.size,λk s _=>a.blk k s (λ_ _ h=>by cases h)⟩
end Go.Abs
