
import Derived.Test.YtibehcmomiplnaaGreatDoorAbsQ
import Derived.KernelRfl
set_option linter.unusedSimpArgs false
set_option linter.unusedVariables false
set_option linter.defProp false
namespace Go.Abs
open Go.RowKit
variable {P:Program}
def Fr.below{w w':World}(h:Fr gX w w'):Below w.heap.size w w':=⟨h.os,h.tape,h.output,h.size,λk C=>h.blk k C λb q e=>by cases e⟩
def GL.below{w w':World}(h:GL gX w)(b:Below w.heap.size w w'):GL gX w':=by
 obtain⟨L,E,C,F⟩:=h;refine⟨L,E,λx hx=>?_,F⟩;have hs:x.1<w.heap.size:=by
  rcases aN x.1 w.heap.size with h | h
  ·exact h
  ·have:=C x hx;rw[wo h]at this;cases this
 rw[b.block x.1 hs];exact C x hx
def GL.alloc{w:World}(h:GL gX w)(o:Obj):GL gX (w.alloc o):=h.below ((Below.refl _ w).alloc (bg _) _)
def allN(f:Nat->Bool):Nat->Bool
 | 0=>true
 | n+1=>cond (f n) (allN f n) false
def F3{f:Nat->Bool}:∀{n:Nat},allN f n=true->∀i,i<n->f i=true
 | 0,_,i,hi=>by omega
 | n+1,h,i,hi=>by
  simp only[allN]at h;cases b:f n with
  | false=>rw[b]at h;cases h
  | true=>
   rw[b]at h;by_cases a:i=n
   ·rw[a];exact b
   ·exact F3 h i (by omega)
end Go.Abs
