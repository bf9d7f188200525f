
import Derived.Test.YtibehcmomiplnaaGreatDoorAbsStr
import Derived.Test.YtibehcmomiplnaaGreatDoorShelf
import Derived.WalkKit
import Derived.BigCall
import Derived.OwnWalk
import Derived.StillTactics
import Derived.RegionTactic
set_option linter.unusedVariables false
set_option linter.unusedSimpArgs false
set_option maxRecDepth 100000
set_option linter.defProp false
namespace Go.Sh
open Go.Abs Go.Proofs Go.RowKit
def V8{w:World}(h:GL gX w):Lib.Utf8Tabs 5 6 w:=by
 obtain⟨L,⟨s,v,q,c3,u,x,r,m,b,o,⟨c4,l,a,j,rfl,e⟩,n,k,p,t⟩,f,_⟩:=h;have g:=f (5,.cells a.2.1.1 a.2.1.2 (0,0)) (by simp);have d:=f (6,.cells a.2.2.1 a.2.2.2 (0,0)) (by simp);refine⟨λc hc=>by rw[bh g,e.2.1 c hc],λi hi=>?_⟩;rw[bh d,bh d,vj 2 i];exact e.2.2 i hi
def FQ(w:World):MapAtRunes Tryz.prog 162 #[] pS w:=λW r c _=>by
 unfold FnGives;by_cases a:48<=r<;>by_cases b:r<=57
 all_goals
  have z1:(48:Int)<=(r:Int)↔48<=r:=by omega
  have z2:(r:Int)<=57↔r<=57:=by omega
  go_enter Tryz.func162,Tryz.ntmps162
  go_wp2
  all_goals first | (exfalso;omega) | (go_ret;exact⟨by simp[pS,z1,z2,a,b],0,rfl⟩)
def FW(x:Nat)(hx:x<=1114111):0<=pS x/\pS x<=2147483647:=by
 unfold pS;cases decide ((48:Int)<=x)&&decide ((x:Int)<=57)<;>simp only[aj,ah]<;>omega
def QU(s:ByteArray)(w:World)(hs:s.size<=1000000)(b:GL gX w):
  Calls Tryz.prog 108 #[.string s] w λe w'=>e=.returned (.string ⟨(zQ s.data.toList).toArray⟩)/\Below w.heap.size w w':=by
 have a:=Tryz.strings_Map_runes 162 #[] (enters_of Tryz.func162 (by kernel_rfl) rfl) pS s w (by omega) (FQ w) (λx hx=>FW x hx) (V8 b);generalize d:(⟨(zQ s.data.toList).toArray⟩:ByteArray)=r;have hr':(⟨(Lib.mapD pS s.data.toList).toArray⟩:ByteArray)=r:=d;rw[hr']at a
 go_enter Tryz.func108,Tryz.ntmps108
 go_wp2_with (go_at_call 163;refine a.mono ?_;rintro e w' ⟨rfl,c⟩)
 go_ret
 exact⟨rfl,c⟩
end Go.Sh
