
/- From a contract to a law's frame; small checks by the kernel.
   Conditions: none; generic over the program. -/
import Derived.Test.YtaogbalpingjhaaGreatDoorAbsQ
import Derived.KernelRfl
set_option linter.unusedSimpArgs false
set_option linter.unusedVariables false
namespace Go.Abs
open Go.RowKit
variable {P:Program}
theorem Fr.below {w w':World} (h:Fr fP w w'):Below w.heap.size w w':=⟨h.os,h.tape,h.output,h.size,λk C=>h.blk k C λb q e=>by cases e⟩
theorem GL.below {w w':World} (h:GL fP w) (b:Below w.heap.size w w'):GL fP w':=by
 obtain ⟨L,F,C,E⟩:=h;refine ⟨L,F,λx hx=>?_,E⟩;have hs:x.1<w.heap.size:=by
  rcases aE x.1 w.heap.size with h | h
  ·exact h
  ·have:=C x hx;rw [tZ h] at this;cases this
 rw [b.block x.1 hs];exact C x hx
theorem GL.alloc {w:World} (h:GL fP w) (o:Obj):GL fP (w.alloc o):=h.below ((Below.refl _ w).alloc (aM _) _)
theorem jh.law {f:Nat} {args:List V} {C:Array Value} {w:World} (h:jh P f args (.b true)) (hx:VRs fP args C.toList) (J:GL fP w:=by first | exact ⟨[],rfl,(λ_ h=>(by cases h)),(λ_ h=>(by cases h))⟩ | assumption):
  Calls P f C w λe w'=>e=.returned (.bool true)/\Below w.heap.size w w':=by
 refine (h w C J hx).mono λe w' ⟨x,G,E,F⟩=>⟨?_,F.below⟩;simp only [VR] at E;rw [G,E]
def allN (f:Nat->Bool):Nat->Bool
 | 0=>true
 | n+1=>cond (f n) (allN f n) false
theorem BZ {f:Nat->Bool}:∀{n:Nat},allN f n=true->∀i,i<n->f i=true
 | 0,_,i,hi=>by omega
 | n+1,h,i,hi=>by
  simp only [allN] at h;cases a:f n with
  | false=>rw [a] at h;cases h
  | true=>
   rw [a] at h;by_cases b:i=n
   ·rw [b];exact a
   ·exact BZ h i (by omega)
end Go.Abs
