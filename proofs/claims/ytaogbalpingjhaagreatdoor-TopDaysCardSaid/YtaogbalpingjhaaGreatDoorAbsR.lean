
/- From a contract to a law's frame; small checks by the kernel.
   Conditions: none; generic over the program. -/
import Derived.Test.YtaogbalpingjhaaGreatDoorAbsQ
import Derived.KernelRfl
set_option linter.unusedSimpArgs false
set_option linter.unusedVariables false
namespace Go.Abs
open Go.RowKit
variable {P:Program}
theorem Fr.below {w w':World} (h:Fr dH w w'):Below w.heap.size w w':=⟨h.os,h.tape,h.output,h.size,λk A=>h.blk k A λb q e=>by cases e⟩
theorem GL.below {w w':World} (h:GL dH w) (b:Below w.heap.size w w'):GL dH w':=by
 obtain ⟨L,F,A,E⟩:=h;refine ⟨L,F,λx C=>?_,E⟩;have G:x.1<w.heap.size:=by
  rcases aA x.1 w.heap.size with h | h
  ·exact h
  ·have:=A x C;rw [rH h] at this;cases this
 rw [b.block x.1 G];exact A x C
theorem GL.alloc {w:World} (h:GL dH w) (o:Obj):GL dH (w.alloc o):=h.below ((Below.refl _ w).alloc (aL _) _)
theorem f7.law {f:Nat} {args:List V} {A:Array Value} {w:World} (h:f7 P f args (.b true)) (J:VRs dH args A.toList) (G:GL dH w:=by first | exact ⟨[],rfl,(λ_ h=>(by cases h)),(λ_ h=>(by cases h))⟩ | assumption):
  Calls P f A w λe w'=>e=.returned (.bool true)/\Below w.heap.size w w':=by
 refine (h w A G J).mono λe w' ⟨x,F,C,E⟩=>⟨?_,E.below⟩;simp only [VR] at C;rw [F,C]
def allN (f:Nat->Bool):Nat->Bool
 | 0=>true
 | n+1=>cond (f n) (allN f n) false
theorem xk {f:Nat->Bool}:∀{n:Nat},allN f n=true->∀i,i<n->f i=true
 | 0,_,i,hi=>by omega
 | n+1,h,i,hi=>by
  simp only [allN] at h;cases a:f n with
  | false=>rw [a] at h;cases h
  | true=>
   rw [a] at h;by_cases b:i=n
   ·rw [b];exact a
   ·exact xk h i (by omega)
end Go.Abs
