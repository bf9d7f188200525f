
import Derived.Test.YtadejcglcffgbabGreatDoorAbsQ
import Derived.KernelRfl
set_option linter.unusedSimpArgs false
set_option linter.unusedVariables false
set_option linter.defProp false
namespace Go.Abs
open Go.RowKit
variable {P:Program}
def Fr.below{w w':World}(h:Fr ii w w'):Below w.heap.size w w':=⟨h.os,h.tape,h.output,h.size,λk A=>h.blk k A λb q e=>by cases e⟩
def GL.below{w w':World}(h:GL ii w)(b:Below w.heap.size w w'):GL ii w':=by
 obtain⟨L,E,A,C⟩:=h;refine⟨L,E,λx hx=>?_,C⟩;have hs:x.1<w.heap.size:=by
  rcases aI x.1 w.heap.size with h | h
  ·exact h
  ·have:=A x hx;rw[uv h]at this;cases this
 rw[b.block x.1 hs];exact A x hx
def allN(f:Nat->Bool):Nat->Bool
 | 0=>true
 | n+1=>cond (f n) (allN f n) false
def zd{f:Nat->Bool}:∀{n:Nat},allN f n=true->∀i,i<n->f i=true
 | 0,_,i,hi=>by omega
 | n+1,h,i,hi=>by
  simp only[allN]at h;cases a:f n with
  | false=>rw[a]at h;cases h
  | true=>
   rw[a]at h;by_cases b:i=n
   ·rw[b];exact a
   ·exact zd h i (by omega)
end Go.Abs
