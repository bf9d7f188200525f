
import Derived.Test.YtadejcglcffgbaaGreatDoorAbsStr
import Derived.Test.YtadejcglcffgbaaGreatDoorShelf
import Derived.WalkKit
import Derived.BigCall
import Derived.OwnWalk
import Derived.StillTactics
import Derived.RegionTactic
set_option linter.unusedVariables false
set_option linter.unusedSimpArgs false
set_option maxRecDepth 100000
set_option linter.defProp false
namespace Go.Sh
open Go.Abs Go.Proofs Go.RowKit
def WW{w:World}(g:GL gQ w):Lib.Utf8Tabs 7 8 w:=by
 obtain⟨L,⟨n,x,l,c3,m,v,p,s,b,o,⟨c4,t,a,k,rfl,f⟩,j,r,q,u⟩,e,_⟩:=g;have h:=e (7,.cells a.2.1.1 a.2.1.2 (0,0)) (by simp);have d:=e (8,.cells a.2.2.1 a.2.2.2 (0,0)) (by simp);refine⟨λc hc=>by rw[bg h,f.2.1 c hc],λi hi=>?_⟩;rw[bg d,bg d,uV 2 i];exact f.2.2 i hi
def GF(w:World):MapAtRunes Tryz.prog 227 #[] pG w:=λW r c _=>by
 unfold FnGives;by_cases b:48<=r<;>by_cases a:r<=57
 all_goals
  have z1:(48:Int)<=(r:Int)↔48<=r:=by omega
  have z2:(r:Int)<=57↔r<=57:=by omega
  go_enter Tryz.func227,Tryz.ntmps227
  go_wp2
  all_goals first | (exfalso;omega) | (go_ret;exact⟨by simp[pG,z1,z2,b,a],0,rfl⟩)
def FY(x:Nat)(hx:x<=1114111):0<=pG x/\pG x<=2147483647:=by
 unfold pG;cases decide ((48:Int)<=x)&&decide ((x:Int)<=57)<;>simp only[aj,af]<;>omega
def PL(s:ByteArray)(w:World)(hs:s.size<=1000000)(c:GL gQ w):
  Calls Tryz.prog 163 #[.string s] w λe w'=>e=.returned (.string ⟨(zD s.data.toList).toArray⟩)/\Below w.heap.size w w':=by
 have a:=Tryz.strings_Map_runes 227 #[] (enters_of Tryz.func227 (by kernel_rfl) rfl) pG s w (by omega) (GF w) (λx hx=>FY x hx) (WW c);generalize d:(⟨(zD s.data.toList).toArray⟩:ByteArray)=r;have hr':(⟨(Lib.mapD pG s.data.toList).toArray⟩:ByteArray)=r:=d;rw[hr']at a
 go_enter Tryz.func163,Tryz.ntmps163
 go_wp2_with (go_at_call 228;refine a.mono ?_;rintro e w' ⟨rfl,b⟩)
 go_ret
 exact⟨rfl,b⟩
end Go.Sh
