
/- Functions of the library that are no code: what the model answers for them; a law that takes slices.
   Conditions: none; generic over the program. -/
import Derived.Test.YtadejcglcffgbacGreatDoorAbsS
import Derived.Laws.Externs
import Derived.Lib.Bytealg
set_option linter.unusedSimpArgs false
set_option linter.unusedVariables false
set_option linter.defProp false
namespace Go.Abs
open Go.RowKit
variable {P:Program}
def IX(f:Nat):Ent:=⟨f,λ_ args _ _ k=>match args with
 | [.s l,.i .u8 c]=>k { val:=.i .i64 (Lib.countByte l c.toNat.toUInt8:Nat) }
 | _=>none⟩
def Jd(f:Nat):Ent:=⟨f,λ_ args _ _ k=>match args with
 | [.s l,.i .u8 c]=>k { val:=.i .i64 (Lib.indexByte l c.toNat.toUInt8) }
 | _=>none⟩
def Bf{ι:Inj}{l:aa}{k:IntKind}{c:Int}{a:Array Value}(h:VRs ι [.s l,.i k c] a.toList):a=#[.string ⟨l.toArray⟩,.int k c]:=by
 simp only[VRs,VR]at h;obtain⟨_,_,h1,rfl,_,_,rfl,rfl,rfl⟩:=h;apply gQ;simpa using h1
def Dx {f:Nat} {fn:Func} (hf:P.funcs[f]?=some fn) (h1:(fn.name == "runtime.NumGoroutine")=false) (h2:fn.body.isNone=true) (h3:Extern.findNext fn=none)
  (h4:Extern.find fn=some Extern.BytealgCount.count):cN P (IX f):=by
 intro α args H fr k z h;simp only [IX] at h;split at h
 case h_2=>cases h
 rename_i l c;refine ⟨_,h,λH' _=>.inr ⟨rfl,rfl,rfl,rfl,λι w xs hx=>⟨.int .i64 (Lib.countByte l c.toNat.toUInt8:Nat),?_,by simp only [VR]⟩⟩⟩;show (callFunc f xs).run P w=_;rw [Bf hx,run_callFunc_extern hf h1 h2 h3 h4,Lib.run_countString];rfl
def Ea {f:Nat} {fn:Func} (hf:P.funcs[f]?=some fn) (h1:(fn.name == "runtime.NumGoroutine")=false) (h2:fn.body.isNone=true) (h3:Extern.findNext fn=none)
  (h4:Extern.find fn=some Extern.BytealgIndexByte.indexByte):cN P (Jd f):=by
 intro α args H fr k z h;simp only [Jd] at h;split at h
 case h_2=>cases h
 rename_i l c;refine ⟨_,h,λH' _=>.inr ⟨rfl,rfl,rfl,rfl,λι w xs hx=>⟨.int .i64 (Lib.indexByte l c.toNat.toUInt8),?_,by simp only [VR]⟩⟩⟩;show (callFunc f xs).run P w=_;rw [Bf hx,run_callFunc_extern hf h1 h2 h3 h4,Lib.run_indexByteString];rfl
end Go.Abs
