
import Derived.Test.YtadejcglcffgbaaGreatDoorAbsQ
import Derived.KernelRfl
set_option linter.unusedSimpArgs false
set_option linter.unusedVariables false
set_option linter.defProp false
namespace Go.Abs
open Go.RowKit
variable {P:Program}
def Fr.below{w w':World}(h:Fr gQ w w'):Below w.heap.size w w':=⟨h.os,h.tape,h.output,h.size,λk C=>h.blk k C λb q e=>by cases e⟩
def GL.below{w w':World}(h:GL gQ w)(b:Below w.heap.size w w'):GL gQ w':=by
 obtain⟨L,E,C,F⟩:=h;refine⟨L,E,λx hx=>?_,F⟩;have hs:x.1<w.heap.size:=by
  rcases aJ x.1 w.heap.size with h | h
  ·exact h
  ·have:=C x hx;rw[vV h]at this;cases this
 rw[b.block x.1 hs];exact C x hx
def GL.alloc{w:World}(h:GL gQ w)(o:Obj):GL gQ (w.alloc o):=h.below ((Below.refl _ w).alloc (aU _) _)
def allN(f:Nat->Bool):Nat->Bool
 | 0=>true
 | n+1=>cond (f n) (allN f n) false
def G7{f:Nat->Bool}:∀{n:Nat},allN f n=true->∀i,i<n->f i=true
 | 0,_,i,hi=>by omega
 | n+1,h,i,hi=>by
  simp only[allN]at h;cases b:f n with
  | false=>rw[b]at h;cases h
  | true=>
   rw[b]at h;by_cases a:i=n
   ·rw[a];exact b
   ·exact G7 h i (by omega)
end Go.Abs
