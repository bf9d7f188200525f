
import Derived.Test.YtjkmipianfkncaaGreatDoorAbsStr
import Derived.Test.YtjkmipianfkncaaGreatDoorShelf
import Derived.WalkKit
import Derived.BigCall
import Derived.OwnWalk
import Derived.StillTactics
import Derived.RegionTactic
set_option linter.unusedVariables false
set_option linter.unusedSimpArgs false
set_option maxRecDepth 100000
set_option linter.defProp false
namespace Go.Sh
open Go.Abs Go.Proofs Go.RowKit
def U1{w:World}(h:GL jG w):Lib.Utf8Tabs 5 6 w:=by
 obtain⟨L,⟨t,n,v,c3,p,x,r,k,b,o,⟨c4,m,a,q,rfl,e⟩,s,u,l,j⟩,f,_⟩:=h;have g:=f (5,.cells a.2.1.1 a.2.1.2 (0,0)) (by simp);have d:=f (6,.cells a.2.2.1 a.2.2.2 (0,0)) (by simp);refine⟨λc hc=>by rw[bB g,e.2.1 c hc],λi hi=>?_⟩;rw[bB d,bB d,uv 2 i];exact e.2.2 i hi
def FL(w:World):MapAtRunes Tryz.prog 143 #[] ow w:=λW r c _=>by
 unfold FnGives;by_cases a:48<=r<;>by_cases b:r<=57
 all_goals
  have z1:(48:Int)<=(r:Int)↔48<=r:=by omega
  have z2:(r:Int)<=57↔r<=57:=by omega
  go_enter Tryz.func143,Tryz.ntmps143
  go_wp2
  all_goals first | (exfalso;omega) | (go_ret;exact⟨by simp[ow,z1,z2,a,b],0,rfl⟩)
def EJ(x:Nat)(hx:x<=1114111):0<=ow x/\ow x<=2147483647:=by
 unfold ow;cases decide ((48:Int)<=x)&&decide ((x:Int)<=57)<;>simp only[aj,af]<;>omega
def Pn(s:ByteArray)(w:World)(hs:s.size<=1000000)(b:GL jG w):
  Calls Tryz.prog 84 #[.string s] w λe w'=>e=.returned (.string ⟨(yQ s.data.toList).toArray⟩)/\Below w.heap.size w w':=by
 have a:=Tryz.strings_Map_runes 143 #[] (enters_of Tryz.func143 (by kernel_rfl) rfl) ow s w (by omega) (FL w) (λx hx=>EJ x hx) (U1 b);generalize d:(⟨(yQ s.data.toList).toArray⟩:ByteArray)=r;have hr':(⟨(Lib.mapD ow s.data.toList).toArray⟩:ByteArray)=r:=d;rw[hr']at a
 go_enter Tryz.func84,Tryz.ntmps84
 go_wp2_with (go_at_call 144;refine a.mono ?_;rintro e w' ⟨rfl,c⟩)
 go_ret
 exact⟨rfl,c⟩
end Go.Sh
