
/- From a contract to a law's frame; small checks by the kernel.
   Conditions: none; generic over the program. -/
import Derived.Test.YthemneooekobkaaGreatDoorAbsQ
import Derived.KernelRfl
set_option linter.unusedSimpArgs false
set_option linter.unusedVariables false
namespace Go.Abs
open Go.RowKit
variable {P:Program}
theorem Fr.below {w w':World} (h:Fr fm w w'):Below w.heap.size w w':=⟨h.os,h.tape,h.output,h.size,λk A=>h.blk k A λb q e=>by cases e⟩
theorem GL.below {w w':World} (h:GL fm w) (b:Below w.heap.size w w'):GL fm w':=by
 obtain ⟨L,E,A,C⟩:=h;refine ⟨L,E,λx hx=>?_,C⟩;have hs:x.1<w.heap.size:=by
  rcases aH x.1 w.heap.size with h | h
  ·exact h
  ·have:=A x hx;rw [tz h] at this;cases this
 rw [b.block x.1 hs];exact A x hx
theorem GL.alloc {w:World} (h:GL fm w) (o:Obj):GL fm (w.alloc o):=h.below ((Below.refl _ w).alloc (aW _) _)
def allN (f:Nat->Bool):Nat->Bool
 | 0=>true
 | n+1=>cond (f n) (allN f n) false
theorem Bg {f:Nat->Bool}:∀{n:Nat},allN f n=true->∀i,i<n->f i=true
 | 0,_,i,hi=>by omega
 | n+1,h,i,hi=>by
  simp only [allN] at h;cases b:f n with
  | false=>rw [b] at h;cases h
  | true=>
   rw [b] at h;by_cases a:i=n
   ·rw [a];exact b
   ·exact Bg h i (by omega)
end Go.Abs
