
/- Functions of the library that are met by a contract of the kit's shelf.
   Conditions: none; generic over the program. -/
import Derived.Test.YthemneooekobkaaGreatDoorAbsX
import Derived.Lib.Join
set_option linter.unusedSimpArgs false
set_option linter.unusedVariables false
namespace Go.Abs
open Go.RowKit
variable {P:Program}
theorem Below.fr {w w':World} (h:Below w.heap.size w w'):Fr jI w w':=⟨h.os,h.tape,h.output,h.size,λk C _=>h.block k C⟩
theorem mH {f:Nat} {args:List V} {H:List (Nat×Blk)} {fr:Nat} {v:V} {rd:List Nat}
  (h:∀(ι:Inj) (nb:Nat) (w:World) (g:Array Value),WR ι H nb w->GL jI w->VRs ι args g.toList->Calls P f g w λe w'=>∃x,e=.returned x/\VR ι v x/\Below w.heap.size w w'):
  HA P f args H fr { val:=v,rd:=rd }:=by
 intro ι nb w g c l _ _ hx;refine (h ι nb w g c (l.mono λb q h=>by cases h) hx).mono λe w' ⟨x,d,j,a⟩=>?_;subst d;have a:=Below.fr a;have n:=a.size;refine ⟨ι,λ_ _ _=>rfl,λb q d=>by simp [isIn] at d,λb q d j=>by simp at j;omega,λ_ _ h _=>h,?_,?_,rfl,j⟩
 ·simp only [dW,uo];refine ⟨c.inj,λb r i=>?_,λb r i=>?_,λb blk p o=>?_⟩
  ·have:=c.low b r i;omega
  ·have:=c.dom b r i;omega
  ·exact (c.blk b blk p o).map rfl (λq m=>a.blk q.r (c.dom b q m) (λ_ _ h=>by cases h)) (λ_ _ x=>x) (λ_ x=>x)
 ·exact ⟨a.os,a.tape,a.output,a.size,λk s _=>a.blk k s (λ_ _ h=>by cases h)⟩
end Go.Abs
