
/- From a contract to a law's frame; small checks by the kernel.
   Conditions: none; generic over the program. -/
import Derived.Test.YthemneooekobkabGreatDoorAbsQ
import Derived.KernelRfl
set_option linter.unusedSimpArgs false
set_option linter.unusedVariables false
namespace Go.Abs
open Go.RowKit
variable {P:Program}
theorem Fr.below {w w':World} (h:Fr ip w w'):Below w.heap.size w w':=⟨h.os,h.tape,h.output,h.size,λk C=>h.blk k C λb q e=>by cases e⟩
theorem GL.below {w w':World} (h:GL ip w) (b:Below w.heap.size w w'):GL ip w':=by
 obtain ⟨L,F,C,E⟩:=h;refine ⟨L,F,λx hx=>?_,E⟩;have hs:x.1<w.heap.size:=by
  rcases aG x.1 w.heap.size with h | h
  ·exact h
  ·have:=C x hx;rw [yj h] at this;cases this
 rw [b.block x.1 hs];exact C x hx
theorem GL.alloc {w:World} (h:GL ip w) (o:Obj):GL ip (w.alloc o):=h.below ((Below.refl _ w).alloc (aW _) _)
theorem kY.law {f:Nat} {args:List V} {C:Array Value} {w:World} (h:kY P f args (.b true)) (hx:VRs ip args C.toList) (J:GL ip w:=by first | exact ⟨[],rfl,(λ_ h=>(by cases h)),(λ_ h=>(by cases h))⟩ | assumption):
  Calls P f C w λe w'=>e=.returned (.bool true)/\Below w.heap.size w w':=by
 refine (h w C J hx).mono λe w' ⟨x,G,E,F⟩=>⟨?_,F.below⟩;simp only [VR] at E;rw [G,E]
def allN (f:Nat->Bool):Nat->Bool
 | 0=>true
 | n+1=>cond (f n) (allN f n) false
theorem EB {f:Nat->Bool}:∀{n:Nat},allN f n=true->∀i,i<n->f i=true
 | 0,_,i,hi=>by omega
 | n+1,h,i,hi=>by
  simp only [allN] at h;cases b:f n with
  | false=>rw [b] at h;cases h
  | true=>
   rw [b] at h;by_cases a:i=n
   ·rw [a];exact b
   ·exact EB h i (by omega)
end Go.Abs
