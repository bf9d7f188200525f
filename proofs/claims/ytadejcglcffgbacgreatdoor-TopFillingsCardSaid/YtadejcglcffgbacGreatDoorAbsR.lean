
import Derived.Test.YtadejcglcffgbacGreatDoorAbsQ
import Derived.KernelRfl
set_option linter.unusedSimpArgs false
set_option linter.unusedVariables false
set_option linter.defProp false
namespace Go.Abs
open Go.RowKit
variable {P:Program}
def Fr.below{w w':World}(h:Fr dY w w'):Below w.heap.size w w':=⟨h.os,h.tape,h.output,h.size,λk A=>h.blk k A λb q e=>by cases e⟩
def GL.below{w w':World}(h:GL dY w)(b:Below w.heap.size w w'):GL dY w':=by
 obtain⟨L,h1,h2,E⟩:=h;refine⟨L,h1,λx A=>?_,E⟩;have C:x.1<w.heap.size:=by
  rcases aA x.1 w.heap.size with h | h
  ·exact h
  ·have:=h2 x A;rw[tj h]at this;cases this
 rw[b.block x.1 C];exact h2 x A
def GL.alloc{w:World}(h:GL dY w)(o:Obj):GL dY (w.alloc o):=h.below ((Below.refl _ w).alloc (aI _) _)
def il.law{f:Nat}{args:List V}{A:Array Value}{w:World}(h:il P f args (.b true))(C:VRs dY args A.toList)(E:GL dY w:=by first | exact⟨[],rfl,(λ_ h=>(by cases h)),(λ_ h=>(by cases h))⟩ | assumption):
  Calls P f A w λe w'=>e=.returned (.bool true)/\Below w.heap.size w w':=by
 refine(h w A E C).mono λe w' ⟨x,h1,h2,F⟩=>⟨?_,F.below⟩;simp only[VR]at h2;rw[h1,h2]
def allN(f:Nat->Bool):Nat->Bool
 | 0=>true
 | n+1=>cond (f n) (allN f n) false
def zH{f:Nat->Bool}:∀{n:Nat},allN f n=true->∀i,i<n->f i=true
 | 0,_,i,hi=>by omega
 | n+1,h,i,hi=>by
  simp only[allN]at h;cases a:f n with
  | false=>rw[a]at h;cases h
  | true=>
   rw[a]at h;by_cases b:i=n
   ·rw[b];exact a
   ·exact zH h i (by omega)
end Go.Abs
