
/- Functions of the library that are no code: what the model answers for them; a law that takes slices.
   Conditions: none; generic over the program. -/
import Derived.Test.YtadejcglcffgbaaGreatDoorAbsS
import Derived.Laws.Externs
import Derived.Lib.Bytealg
set_option linter.unusedSimpArgs false
set_option linter.unusedVariables false
set_option linter.defProp false
namespace Go.Abs
open Go.RowKit
variable {P:Program}
def SX(f:Nat):Ent:=⟨f,λ_ args _ _ k=>match args with
 | [.s l,.i .u8 c]=>k { val:=.i .i64 (Lib.countByte l c.toNat.toUInt8:Nat) }
 | _=>none⟩
def RS(f:Nat):Ent:=⟨f,λ_ args _ _ k=>match args with
 | [.s l,.i .u8 c]=>k { val:=.i .i64 (Lib.indexByte l c.toNat.toUInt8) }
 | _=>none⟩
def Jf{ι:Inj}{l:aa}{k:IntKind}{c:Int}{a:Array Value}(h:VRs ι [.s l,.i k c] a.toList):a=#[.string ⟨l.toArray⟩,.int k c]:=by
 simp only[VRs,VR]at h;obtain⟨_,_,b,rfl,_,_,rfl,rfl,rfl⟩:=h;apply lq;simpa using b
def NU {f:Nat} {fn:Func} (hf:P.funcs[f]?=some fn) (h1:(fn.name == "runtime.NumGoroutine")=false) (h2:fn.body.isNone=true) (h3:Extern.findNext fn=none)
  (h4:Extern.find fn=some Extern.BytealgCount.count):fC P (SX f):=by
 intro α args H fr k z h;simp only [SX] at h;split at h
 case h_2=>cases h
 rename_i l c;refine ⟨_,h,λH' _=>.inr ⟨rfl,rfl,rfl,rfl,λι w xs hx=>⟨.int .i64 (Lib.countByte l c.toNat.toUInt8:Nat),?_,by simp only [VR]⟩⟩⟩;show (callFunc f xs).run P w=_;rw [Jf hx,run_callFunc_extern hf h1 h2 h3 h4,Lib.run_countString];rfl
def OO {f:Nat} {fn:Func} (hf:P.funcs[f]?=some fn) (h1:(fn.name == "runtime.NumGoroutine")=false) (h2:fn.body.isNone=true) (h3:Extern.findNext fn=none)
  (h4:Extern.find fn=some Extern.BytealgIndexByte.indexByte):fC P (RS f):=by
 intro α args H fr k z h;simp only [RS] at h;split at h
 case h_2=>cases h
 rename_i l c;refine ⟨_,h,λH' _=>.inr ⟨rfl,rfl,rfl,rfl,λι w xs hx=>⟨.int .i64 (Lib.indexByte l c.toNat.toUInt8),?_,by simp only [VR]⟩⟩⟩;show (callFunc f xs).run P w=_;rw [Jf hx,run_callFunc_extern hf h1 h2 h3 h4,Lib.run_indexByteString];rfl
def OP{ι0:Inj}{m:Nat}(h:∀b q,ι0 b=some q->b<m):roI ι0 m=gQ:=by
 funext b;unfold roI gQ;cases a:Nat.blt b m with
 | true=>rfl
 | false=>
  cases hi:ι0 b with
  | none=>rfl
  | some q=>rw[show Nat.blt b m=true from cD (h b q hi)]at a;cases a
def xh.law{f:Nat}{args:List V}{H0:List (Nat×Blk)}{m rb:Nat}{out:FOut}(h:xh P f args H0 m m rb out)(hp:out.pan=false)(U:out.val=.b true){ι0:Inj}{G:Array Value}{w:World}
  (E:WR ι0 H0 m w) (hx:VRs ι0 args G.toList) (W:GL gQ w:=by first | exact⟨[],rfl,(λ_ h=>(by cases h)),(λ_ h=>(by cases h))⟩ | assumption):Calls P f G w λe w'=>e=.returned (.bool true)/\Below w.heap.size w w':=by
 refine(h ι0 w G E (λb q C _=>E.low b _ C) (W.mono λb q C=>by rw[OP E.low]at C;cases C) hx).mono λe w' ⟨ι,_,_,_,_,Q,O⟩=>?_;rw[OP E.low]at Q;refine⟨?_,Q.below⟩;cases e with
 | returned x=>
  have J:=O.2;rw[U]at J;simp only[VR]at J;rw[J]
 | panicked F=>
  have:=O.1;rw[hp]at this;cases this
 | outgrown=>exact O.elim
end Go.Abs
