
import Derived.Test.YtibehcmomiplnabGreatDoorAbsStr
import Derived.Test.YtibehcmomiplnabGreatDoorShelf
import Derived.WalkKit
import Derived.BigCall
import Derived.OwnWalk
import Derived.StillTactics
import Derived.RegionTactic
set_option linter.unusedSimpArgs false
set_option linter.unusedVariables false
set_option linter.defProp false
set_option maxRecDepth 100000
namespace Go.Sh
open Go.Abs Go.Proofs Go.RowKit
def aaI{w:World}(g:GL iI w):Lib.Utf8Tabs 7 8 w:=by
 obtain⟨L,⟨v,m,k,c3,n,s,x,p,b,o,⟨c4,r,a,l,rfl,d⟩,t,u,q,j⟩,f,_⟩:=g;have h:=f (7,.cells a.2.1.1 a.2.1.2 (0,0)) (by simp);have e:=f (8,.cells a.2.2.1 a.2.2.2 (0,0)) (by simp);refine⟨λc hc=>by rw[bB h,d.2.1 c hc],λi hi=>?_⟩;rw[bB e,bB e,xw 2 i];exact d.2.2 i hi
def Jj(w:World):MapAtRunes Tryz.prog 262 #[] rD w:=λW r c _=>by
 unfold FnGives;by_cases a:48<=r<;>by_cases b:r<=57
 all_goals
  have z1:(48:Int)<=(r:Int)↔48<=r:=by omega
  have z2:(r:Int)<=57↔r<=57:=by omega
  go_enter Tryz.func262,Tryz.ntmps262
  go_wp2
  all_goals first | (exfalso;omega) | (go_ret;exact⟨by simp[rD,z1,z2,a,b],0,rfl⟩)
def Iz(x:Nat)(hx:x<=1114111):0<=rD x/\rD x<=2147483647:=by
 unfold rD;cases decide ((48:Int)<=x)&&decide ((x:Int)<=57)<;>simp only[ah,af]<;>omega
def RR(s:ByteArray)(w:World)(hs:s.size<=1000000)(c:GL iI w):
  Calls Tryz.prog 218 #[.string s] w λe w'=>e=.returned (.string ⟨(BM s.data.toList).toArray⟩)/\Below w.heap.size w w':=by
 have a:=Tryz.strings_Map_runes 262 #[] (enters_of Tryz.func262 (by kernel_rfl) rfl) rD s w (by omega) (Jj w) (λx hx=>Iz x hx) (aaI c);generalize d:(⟨(BM s.data.toList).toArray⟩:ByteArray)=r;have hr':(⟨(Lib.mapD rD s.data.toList).toArray⟩:ByteArray)=r:=d;rw[hr']at a
 go_enter Tryz.func218,Tryz.ntmps218
 go_wp2_with (go_at_call 263;refine a.mono ?_;rintro e w' ⟨rfl,b⟩)
 go_ret
 exact⟨rfl,b⟩
end Go.Sh
