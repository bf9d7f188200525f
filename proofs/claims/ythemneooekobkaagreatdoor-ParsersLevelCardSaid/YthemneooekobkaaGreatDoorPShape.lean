
/- The form of a text (parsers.shape): strings.Map at a function that makes d of each digit.
   Conditions: none. -/
import Derived.Test.YthemneooekobkaaGreatDoorAbsStr
import Derived.Test.YthemneooekobkaaGreatDoorShelf
import Derived.WalkKit
import Derived.BigCall
import Derived.OwnWalk
import Derived.StillTactics
import Derived.RegionTactic
set_option linter.unusedVariables false
set_option linter.unusedSimpArgs false
set_option maxRecDepth 100000
namespace Go.Sh
open Go.Abs Go.Proofs Go.RowKit
theorem Si {w:World} (h:GL iM w):Lib.Utf8Tabs 3 4 w:=by
 obtain ⟨L,⟨v,y,l,c3,p,k,t,j,b,o,⟨q,m,a,s,rfl,d⟩,x,n,u,r⟩,f,_⟩:=h;have g:=f (3,.cells a.2.1.1 a.2.1.2 (0,0)) (by simp);have e:=f (4,.cells a.2.2.1 a.2.2.2 (0,0)) (by simp);refine ⟨λc hc=>by rw [bz g,d.2.1 c hc],λi hi=>?_⟩;rw [bz e,bz e,sa 2 i];exact d.2.2 i hi
theorem Cd (w:World):MapAtRunes Tryz.prog 108 #[] mI w:=λW r c _=>by
 unfold FnGives;by_cases a:48<=r<;>by_cases b:r<=57
 all_goals
  have z1:(48:Int)<=(r:Int)↔48<=r:=by omega
  have z2:(r:Int)<=57↔r<=57:=by omega
  go_enter Tryz.func108,Tryz.ntmps108
  go_wp2
  all_goals first | (exfalso;omega) | (go_ret;exact ⟨by simp [mI,z1,z2,a,b],0,rfl⟩)
theorem BS (x:Nat) (a:x<=1114111):0<=mI x/\mI x<=2147483647:=by
 unfold mI;cases decide ((48:Int)<=x)&&decide ((x:Int)<=57)<;>simp only [aj,af]<;>omega
theorem LF (s:ByteArray) (w:World) (g:s.size<=1000000) (b:GL iM w):
  Calls Tryz.prog 63 #[.string s] w λe w'=>e=.returned (.string ⟨(wn s.data.toList).toArray⟩)/\Below w.heap.size w w':=by
 have a:=Tryz.strings_Map_runes 108 #[] (enters_of Tryz.func108 (by kernel_rfl) rfl) mI s w (by omega) (Cd w) (λx d=>BS x d) (Si b);generalize c:(⟨(wn s.data.toList).toArray⟩:ByteArray)=r;have hr':(⟨(Lib.mapD mI s.data.toList).toArray⟩:ByteArray)=r:=c;rw [hr'] at a
 go_enter Tryz.func63,Tryz.ntmps63
 go_wp2_with (go_at_call 109;refine a.mono ?_;rintro e w' ⟨rfl,f⟩)
 go_ret
 exact ⟨rfl,f⟩
end Go.Sh
