
/- From a contract to a law's frame; small checks by the kernel.
   Conditions: none; generic over the program. -/
import Derived.Test.YthemneooekobkaaGreatDoorAbsQ
import Derived.KernelRfl
set_option linter.unusedSimpArgs false
set_option linter.unusedVariables false
namespace Go.Abs
open Go.RowKit
variable {P:Program}
theorem Fr.below {w w':World} (h:Fr jI w w'):Below w.heap.size w w':=⟨h.os,h.tape,h.output,h.size,λk C=>h.blk k C λb q e=>by cases e⟩
theorem GL.below {w w':World} (h:GL jI w) (b:Below w.heap.size w w'):GL jI w':=by
 obtain ⟨L,F,C,E⟩:=h;refine ⟨L,F,λx hx=>?_,E⟩;have hs:x.1<w.heap.size:=by
  rcases aI x.1 w.heap.size with h | h
  ·exact h
  ·have:=C x hx;rw [vU h] at this;cases this
 rw [b.block x.1 hs];exact C x hx
def allN (f:Nat->Bool):Nat->Bool
 | 0=>true
 | n+1=>cond (f n) (allN f n) false
theorem FH {f:Nat->Bool}:∀{n:Nat},allN f n=true->∀i,i<n->f i=true
 | 0,_,i,hi=>by omega
 | n+1,h,i,hi=>by
  simp only [allN] at h;cases b:f n with
  | false=>rw [b] at h;cases h
  | true=>
   rw [b] at h;by_cases a:i=n
   ·rw [a];exact b
   ·exact FH h i (by omega)
end Go.Abs
