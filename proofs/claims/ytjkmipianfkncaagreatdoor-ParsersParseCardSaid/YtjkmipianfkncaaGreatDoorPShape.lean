
import Derived.Test.YtjkmipianfkncaaGreatDoorAbsStr
import Derived.Test.YtjkmipianfkncaaGreatDoorShelf
import Derived.WalkKit
import Derived.BigCall
import Derived.OwnWalk
import Derived.StillTactics
import Derived.RegionTactic
set_option linter.unusedVariables false
set_option linter.unusedSimpArgs false
set_option maxRecDepth 100000
set_option linter.defProp false
namespace Go.Sh
open Go.Abs Go.Proofs Go.RowKit
def RR{w:World}(h:GL jo w):Lib.Utf8Tabs 5 6 w:=by
 obtain⟨L,⟨n,k,p,c3,t,l,v,x,b,o,⟨s,y,a,j,rfl,f⟩,m,q,u,r⟩,d,_⟩:=h;have g:=d (5,.cells a.2.1.1 a.2.1.2 (0,0)) (by simp);have e:=d (6,.cells a.2.2.1 a.2.2.2 (0,0)) (by simp);refine⟨λc hc=>by rw[bC g,f.2.1 c hc],λi hi=>?_⟩;rw[bC e,bC e,tq 2 i];exact f.2.2 i hi
def Ec(w:World):MapAtRunes Tryz.prog 143 #[] nS w:=λW r c _=>by
 unfold FnGives;by_cases b:48<=r<;>by_cases a:r<=57
 all_goals
  have z1:(48:Int)<=(r:Int)↔48<=r:=by omega
  have z2:(r:Int)<=57↔r<=57:=by omega
  go_enter Tryz.func143,Tryz.ntmps143
  go_wp2
  all_goals first | (exfalso;omega) | (go_ret;exact⟨by simp[nS,z1,z2,b,a],0,rfl⟩)
def Ef(x:Nat)(hx:x<=1114111):0<=nS x/\nS x<=2147483647:=by
 unfold nS;cases decide ((48:Int)<=x)&&decide ((x:Int)<=57)<;>simp only[aj,af]<;>omega
def NZ(s:ByteArray)(w:World)(hs:s.size<=1000000)(d:GL jo w):
  Calls Tryz.prog 84 #[.string s] w λe w'=>e=.returned (.string ⟨(yq s.data.toList).toArray⟩)/\Below w.heap.size w w':=by
 have a:=Tryz.strings_Map_runes 143 #[] (enters_of Tryz.func143 (by kernel_rfl) rfl) nS s w (by omega) (Ec w) (λx hx=>Ef x hx) (RR d);generalize c:(⟨(yq s.data.toList).toArray⟩:ByteArray)=r;have hr':(⟨(Lib.mapD nS s.data.toList).toArray⟩:ByteArray)=r:=c;rw[hr']at a
 go_enter Tryz.func84,Tryz.ntmps84
 go_wp2_with (go_at_call 144;refine a.mono ?_;rintro e w' ⟨rfl,b⟩)
 go_ret
 exact⟨rfl,b⟩
end Go.Sh
