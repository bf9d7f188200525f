
/- From a contract to a law's frame; small checks by the kernel.
   Conditions: none; generic over the program. -/
import Derived.Test.YthemneooekobkaaGreatDoorAbsQ
import Derived.KernelRfl
set_option linter.unusedSimpArgs false
set_option linter.unusedVariables false
namespace Go.Abs
open Go.RowKit
variable {P:Program}
theorem Fr.below {w w':World} (h:Fr iM w w'):Below w.heap.size w w':=⟨h.os,h.tape,h.output,h.size,λk C=>h.blk k C λb q e=>by cases e⟩
theorem GL.below {w w':World} (h:GL iM w) (b:Below w.heap.size w w'):GL iM w':=by
 obtain ⟨L,G,C,F⟩:=h;refine ⟨L,G,λx E=>?_,F⟩;have J:x.1<w.heap.size:=by
  rcases aF x.1 w.heap.size with h | h
  ·exact h
  ·have:=C x E;rw [tQ h] at this;cases this
 rw [b.block x.1 J];exact C x E
theorem jP.law {f:Nat} {args:List V} {C:Array Value} {w:World} (h:jP P f args (.b true)) (J:VRs iM args C.toList) (F:GL iM w:=by first | exact ⟨[],rfl,(λ_ h=>(by cases h)),(λ_ h=>(by cases h))⟩ | assumption):
  Calls P f C w λe w'=>e=.returned (.bool true)/\Below w.heap.size w w':=by
 refine (h w C F J).mono λe w' ⟨x,K,E,G⟩=>⟨?_,G.below⟩;simp only [VR] at E;rw [K,E]
def allN (f:Nat->Bool):Nat->Bool
 | 0=>true
 | n+1=>cond (f n) (allN f n) false
theorem BJ {f:Nat->Bool}:∀{n:Nat},allN f n=true->∀i,i<n->f i=true
 | 0,_,i,hi=>by omega
 | n+1,h,i,hi=>by
  simp only [allN] at h;cases a:f n with
  | false=>rw [a] at h;cases h
  | true=>
   rw [a] at h;by_cases b:i=n
   ·rw [b];exact a
   ·exact BJ h i (by omega)
end Go.Abs
