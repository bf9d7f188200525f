/- Functions of the library that are met by a contract of the kit's shelf.
   Conditions: none; generic over the program. -/
import Derived.Test.YtlampgohpnchdaaGreatDoorAbsX
import Derived.Lib.Join
namespace Go.Abs
open Go.RowKit
variable {P:Program}
theorem Below.fr {w w':World} (h:Below w.heap.size w w'):Fr fI w w':=⟨h.os,h.tape,h.output,h.size,λk hk _=>h.block k hk⟩
theorem kK {f:Nat} {args:List V} {H:List (Nat×Blk)} {fr:Nat} {v:V} {rd:List Nat}
  (h:∀(ι:Inj) (nb:Nat) (w:World) (xs:Array Value),WR ι H nb w->GL fI w->VRs ι args xs.toList->Calls P f xs w λe w'=>∃x,e=.returned x/\VR ι v x/\Below w.heap.size w w'):
  uV P f args H fr { val:=v,rd:=rd }:=by
 intro ι nb w xs hW hg _ _ hx
 refine (h ι nb w xs hW (hg.mono λb q h=>by cases h) hx).mono λe w' ⟨x,h1,h2,h3⟩=>?_
 subst h1
 have h3:=Below.fr h3
 have hsz:=h3.size
 refine ⟨ι,λ_ _ _=>rfl,λb q h1=>by simp [isIn] at h1,λb q h1 h2=>by simp at h2;omega,λ_ _ h _=>h,?_,?_,rfl,h2⟩
 ·simp only [List.nil_append,mM]
  refine ⟨hW.inj,λb r hb=>?_,λb r hb=>?_,λb blk hl hd=>?_⟩
  ·have:=hW.low b r hb
   omega
  ·have:=hW.dom b r hb
   omega
  ·exact (hW.blk b blk hl hd).map rfl (λq hq=>h3.blk q.r (hW.dom b q hq) (λ_ _ h=>by cases h)) (λ_ _ x=>x) (λ_ x=>x)
 ·exact ⟨h3.os,h3.tape,h3.output,h3.size,λk hk _=>h3.blk k hk (λ_ _ h=>by cases h)⟩
end Go.Abs
