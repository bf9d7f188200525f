
/- From a contract to a law's frame; small checks by the kernel.
   Conditions: none; generic over the program. -/
import Derived.Test.YtfiponokimbeeaaGreatDoorAbsQ
import Derived.KernelRfl
set_option linter.unusedSimpArgs false
set_option linter.unusedVariables false
namespace Go.Abs
open Go.RowKit
variable {P:Program}
theorem Fr.below {w w':World} (h:Fr gf w w'):Below w.heap.size w w':=⟨h.os,h.tape,h.output,h.size,λk C=>h.blk k C λb q e=>by cases e⟩
theorem GL.below {w w':World} (h:GL gf w) (b:Below w.heap.size w w'):GL gf w':=by
 obtain ⟨L,F,C,E⟩:=h;refine ⟨L,F,λx hx=>?_,E⟩;have hs:x.1<w.heap.size:=by
  rcases aF x.1 w.heap.size with h | h
  ·exact h
  ·have:=C x hx;rw [vN h] at this;cases this
 rw [b.block x.1 hs];exact C x hx
theorem GL.alloc {w:World} (h:GL gf w) (o:Obj):GL gf (w.alloc o):=h.below ((Below.refl _ w).alloc (aP _) _)
theorem jN.law {f:Nat} {args:List V} {C:Array Value} {w:World} (h:jN P f args (.b true)) (hx:VRs gf args C.toList) (G:GL gf w:=by first | exact ⟨[],rfl,(λ_ h=>(by cases h)),(λ_ h=>(by cases h))⟩ | assumption):
  Calls P f C w λe w'=>e=.returned (.bool true)/\Below w.heap.size w w':=by
 refine (h w C G hx).mono λe w' ⟨x,F,E,J⟩=>⟨?_,J.below⟩;simp only [VR] at E;rw [F,E]
def allN (f:Nat->Bool):Nat->Bool
 | 0=>true
 | n+1=>cond (f n) (allN f n) false
theorem Dy {f:Nat->Bool}:∀{n:Nat},allN f n=true->∀i,i<n->f i=true
 | 0,_,i,hi=>by omega
 | n+1,h,i,hi=>by
  simp only [allN] at h;cases b:f n with
  | false=>rw [b] at h;cases h
  | true=>
   rw [b] at h;by_cases a:i=n
   ·rw [a];exact b
   ·exact Dy h i (by omega)
end Go.Abs
