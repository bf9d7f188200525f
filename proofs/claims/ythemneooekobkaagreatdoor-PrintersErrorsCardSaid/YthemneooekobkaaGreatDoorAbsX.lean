
/- Functions of the library that are no code: what the model answers for them; a law that takes slices.
   Conditions: none; generic over the program. -/
import Derived.Test.YthemneooekobkaaGreatDoorAbsS
import Derived.Laws.Externs
import Derived.Lib.Bytealg
set_option linter.unusedSimpArgs false
set_option linter.unusedVariables false
namespace Go.Abs
open Go.RowKit
variable {P:Program}
def MN (f:Nat):Ent:=⟨f,λ_ args _ _ k=>match args with
 | [.s l,.i .u8 c]=>k { val:=.i .i64 (Lib.indexByte l c.toNat.toUInt8) }
 | _=>none⟩
theorem K5 {ι:Inj} {l:aa} {k:IntKind} {c:Int} {a:Array Value} (h:VRs ι [.s l,.i k c] a.toList):a=#[.string ⟨l.toArray⟩,.int k c]:=by
 simp only [VRs,VR] at h;obtain ⟨_,_,b,rfl,_,_,rfl,rfl,rfl⟩:=h;apply jZ;simpa using b
theorem IG {f:Nat} {fn:Func} (hf:P.funcs[f]?=some fn) (h1:(fn.name == "runtime.NumGoroutine")=false) (h2:fn.body.isNone=true) (h3:Extern.findNext fn=none)
  (h4:Extern.find fn=some Extern.BytealgIndexByte.indexByte):ek P (MN f):=by
 intro α args H fr k z h;simp only [MN] at h;split at h
 case h_2=>cases h
 rename_i l c;refine ⟨_,h,λH' _=>.inr ⟨rfl,rfl,rfl,rfl,λι w xs hx=>⟨.int .i64 (Lib.indexByte l c.toNat.toUInt8),?_,by simp only [VR]⟩⟩⟩;show (callFunc f xs).run P w=_;rw [K5 hx,run_callFunc_extern hf h1 h2 h3 h4,Lib.run_indexByteString];rfl
theorem I0 {ι0:Inj} {m:Nat} (h:∀b q,ι0 b=some q->b<m):roI ι0 m=fm:=by
 funext b;unfold roI fm;cases a:Nat.blt b m with
 | true=>rfl
 | false=>
  cases hi:ι0 b with
  | none=>rfl
  | some q=>rw [show Nat.blt b m=true from cU (h b q hi)] at a;cases a
theorem yd.law {f:Nat} {args:List V} {H0:List (Nat×Blk)} {m rb:Nat} {out:FOut} (h:yd P f args H0 m m rb out) (hp:out.pan=false) (Q:out.val=.b true) {ι0:Inj} {E:Array Value} {w:World}
  (C:WR ι0 H0 m w) (hx:VRs ι0 args E.toList) (O:GL fm w:=by first | exact ⟨[],rfl,(λ_ h=>(by cases h)),(λ_ h=>(by cases h))⟩ | assumption):Calls P f E w λe w'=>e=.returned (.bool true)/\Below w.heap.size w w':=by
 refine (h ι0 w E C (λb q A _=>C.low b _ A) (O.mono λb q A=>by rw [I0 C.low] at A;cases A) hx).mono λe w' ⟨ι,_,_,_,_,M,J⟩=>?_;rw [I0 C.low] at M;refine ⟨?_,M.below⟩;cases e with
 | returned x=>
  have G:=J.2;rw [Q] at G;simp only [VR] at G;rw [G]
 | panicked F=>
  have:=J.1;rw [hp] at this;cases this
 | outgrown=>exact J.elim
end Go.Abs
