
import Derived.Test.YtjkmipianfkncaaGreatDoorAbsQ
import Derived.KernelRfl
set_option linter.unusedSimpArgs false
set_option linter.unusedVariables false
set_option linter.defProp false
namespace Go.Abs
open Go.RowKit
variable {P:Program}
def Fr.below{w w':World}(h:Fr jo w w'):Below w.heap.size w w':=⟨h.os,h.tape,h.output,h.size,λk C=>h.blk k C λb q e=>by cases e⟩
def GL.below{w w':World}(h:GL jo w)(b:Below w.heap.size w w'):GL jo w':=by
 obtain⟨L,E,C,F⟩:=h;refine⟨L,E,λx hx=>?_,F⟩;have hs:x.1<w.heap.size:=by
  rcases aF x.1 w.heap.size with h | h
  ·exact h
  ·have:=C x hx;rw[xj h]at this;cases this
 rw[b.block x.1 hs];exact C x hx
def kL.law{f:Nat}{args:List V}{C:Array Value}{w:World}(h:kL P f args (.b true))(hx:VRs jo args C.toList)(F:GL jo w:=by first | exact⟨[],rfl,(λ_ h=>(by cases h)),(λ_ h=>(by cases h))⟩ | assumption):
  Calls P f C w λe w'=>e=.returned (.bool true)/\Below w.heap.size w w':=by
 refine(h w C F hx).mono λe w' ⟨x,G,E,J⟩=>⟨?_,J.below⟩;simp only[VR]at E;rw[G,E]
def allN(f:Nat->Bool):Nat->Bool
 | 0=>true
 | n+1=>cond (f n) (allN f n) false
def DJ{f:Nat->Bool}:∀{n:Nat},allN f n=true->∀i,i<n->f i=true
 | 0,_,i,hi=>by omega
 | n+1,h,i,hi=>by
  simp only[allN]at h;cases a:f n with
  | false=>rw[a]at h;cases h
  | true=>
   rw[a]at h;by_cases b:i=n
   ·rw[b];exact a
   ·exact DJ h i (by omega)
end Go.Abs
