
/- Functions of the library that are no code: what the model answers for them; a law that takes slices.
   Conditions: none; generic over the program. -/
import Derived.Test.YtibehcmomiplnabGreatDoorAbsS
import Derived.Laws.Externs
import Derived.Lib.Bytealg
set_option linter.unusedSimpArgs false
set_option linter.unusedVariables false
set_option linter.defProp false
namespace Go.Abs
open Go.RowKit
variable {P:Program}
def VP(f:Nat):Ent:=⟨f,λ_ args _ _ k=>match args with
 | [.s l,.i .u8 c]=>k { val:=.i .i64 (Lib.indexByte l c.toNat.toUInt8) }
 | _=>none⟩
def RY{ι:Inj}{l:aa}{k:IntKind}{c:Int}{a:Array Value}(h:VRs ι [.s l,.i k c] a.toList):a=#[.string ⟨l.toArray⟩,.int k c]:=by
 simp only[VRs,VR]at h;obtain⟨_,_,b,rfl,_,_,rfl,rfl,rfl⟩:=h;apply mO;simpa using b
def Nz {f:Nat} {fn:Func} (hf:P.funcs[f]?=some fn) (h1:(fn.name == "runtime.NumGoroutine")=false) (h2:fn.body.isNone=true) (h3:Extern.findNext fn=none)
  (h4:Extern.find fn=some Extern.BytealgIndexByte.indexByte):gV P (VP f):=by
 intro α args H fr k z h;simp only [VP] at h;split at h
 case h_2=>cases h
 rename_i l c;refine ⟨_,h,λH' _=>.inr ⟨rfl,rfl,rfl,rfl,λι w xs hx=>⟨.int .i64 (Lib.indexByte l c.toNat.toUInt8),?_,by simp only [VR]⟩⟩⟩;show (callFunc f xs).run P w=_;rw [RY hx,run_callFunc_extern hf h1 h2 h3 h4,Lib.run_indexByteString];rfl
def Ph{ι0:Inj}{m:Nat}(h:∀b q,ι0 b=some q->b<m):roI ι0 m=iI:=by
 funext b;unfold roI iI;cases a:Nat.blt b m with
 | true=>rfl
 | false=>
  cases hi:ι0 b with
  | none=>rfl
  | some q=>rw[show Nat.blt b m=true from dc (h b q hi)]at a;cases a
def Fj.law{f:Nat}{args:List V}{H0:List (Nat×Blk)}{m rb:Nat}{out:FOut}(h:Fj P f args H0 m m rb out)(hp:out.pan=false)(U:out.val=.b true){ι0:Inj}{J:Array Value}{w:World}
  (C:WR ι0 H0 m w) (hx:VRs ι0 args J.toList) (W:GL iI w:=by first | exact⟨[],rfl,λ_ h=>(by cases h),λ_ h=>(by cases h)⟩ | assumption):Calls P f J w λe w'=>e=.returned (.bool true)/\Below w.heap.size w w':=by
 refine(h ι0 w J C (λb q E _=>C.low b _ E) (W.mono λb q E=>by rw[Ph C.low]at E;cases E) hx).mono λe w' ⟨ι,_,_,_,_,Q,G⟩=>?_;rw[Ph C.low]at Q;refine⟨?_,Q.below⟩;cases e with
 | returned x=>
  have F:=G.2;rw[U]at F;simp only[VR]at F;rw[F]
 | panicked O=>
  have:=G.1;rw[hp]at this;cases this
 | outgrown=>exact G.elim
end Go.Abs
