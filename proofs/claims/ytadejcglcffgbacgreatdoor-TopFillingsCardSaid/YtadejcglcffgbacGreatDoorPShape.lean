
import Derived.Test.YtadejcglcffgbacGreatDoorAbsStr
import Derived.Test.YtadejcglcffgbacGreatDoorShelf
import Derived.WalkKit
import Derived.BigCall
import Derived.OwnWalk
import Derived.StillTactics
import Derived.RegionTactic
set_option linter.unusedVariables false
set_option linter.unusedSimpArgs false
set_option maxRecDepth 100000
set_option linter.defProp false
namespace Go.Sh
open Go.Abs Go.Proofs Go.RowKit
def Na{w:World}(h:GL dY w):Lib.Utf8Tabs 9 10 w:=by
 obtain⟨L,⟨r,n,l,c3,k,m,q,j,b,o,⟨c4,p,a,s,rfl,f⟩,h0,h1,h2,t⟩,d,_⟩:=h;have g:=d (9,.cells a.2.1.1 a.2.1.2 (0,0)) (by simp);have e:=d (10,.cells a.2.2.1 a.2.2.2.1 (0,0)) (by simp);refine⟨λc hc=>by rw[aN g,f.2.1 c hc],λi hi=>?_⟩;rw[aN e,aN e,vJ 2 i];exact f.2.2 i hi
def yU(w:World):MapAtRunes Tryz.prog 251 #[] qS w:=λW r a _=>by
 unfold FnGives;by_cases h1:48<=r<;>by_cases h2:r<=57
 all_goals
  have z1:(48:Int)<=(r:Int)↔48<=r:=by omega
  have z2:(r:Int)<=57↔r<=57:=by omega
  go_enter Tryz.func251,Tryz.ntmps251
  go_wp2
  all_goals first | (exfalso;omega) | (go_ret;exact⟨by simp[qS,z1,z2,h1,h2],0,rfl⟩)
def yI(x:Nat)(a:x<=1114111):0<=qS x/\qS x<=2147483647:=by
 unfold qS;cases decide ((48:Int)<=x)&&decide ((x:Int)<=57)<;>simp only[aj,ae]<;>omega
def Gj(s:ByteArray)(w:World)(g:s.size<=1000000)(d:GL dY w):
  Calls Tryz.prog 207 #[.string s] w λe w'=>e=.returned (.string ⟨(xx s.data.toList).toArray⟩)/\Below w.heap.size w w':=by
 have a:=Tryz.strings_Map_runes 251 #[] (enters_of Tryz.func251 (by kernel_rfl) rfl) qS s w (by omega) (yU w) (λx f=>yI x f) (Na d);generalize b:(⟨(xx s.data.toList).toArray⟩:ByteArray)=r;have hr':(⟨(Lib.mapD qS s.data.toList).toArray⟩:ByteArray)=r:=b;rw[hr']at a
 go_enter Tryz.func207,Tryz.ntmps207
 go_wp2_with (go_at_call 252;refine a.mono ?_;rintro e w' ⟨rfl,c⟩)
 go_ret
 exact⟨rfl,c⟩
end Go.Sh
