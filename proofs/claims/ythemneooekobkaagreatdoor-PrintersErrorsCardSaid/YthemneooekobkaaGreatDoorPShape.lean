
/- The form of a text (parsers.shape): strings.Map at a function that makes d of each digit.
   Conditions: none. -/
import Derived.Test.YthemneooekobkaaGreatDoorAbsStr
import Derived.Test.YthemneooekobkaaGreatDoorShelf
import Derived.WalkKit
import Derived.BigCall
import Derived.OwnWalk
import Derived.StillTactics
import Derived.RegionTactic
set_option linter.unusedVariables false
set_option linter.unusedSimpArgs false
set_option maxRecDepth 100000
namespace Go.Sh
open Go.Abs Go.Proofs Go.RowKit
theorem Qe {w:World} (g:GL fm w):Lib.Utf8Tabs 3 4 w:=by
 obtain ⟨L,⟨q,n,u,s,y,j,l,r,b,o,⟨v,p,a,m,rfl,d⟩,x,z,t,k⟩,f,_⟩:=g;have h:=f (3,.cells a.2.1.1 a.2.1.2 (0,0)) (by simp);have e:=f (4,.cells a.2.2.1 a.2.2.2 (0,0)) (by simp);refine ⟨λc hc=>by rw [aX h,d.2.1 c hc],λi hi=>?_⟩;rw [aX e,aX e,sQ 2 i];exact d.2.2 i hi
theorem B7 (w:World):MapAtRunes Tryz.prog 108 #[] tf w:=λW r c _=>by
 unfold FnGives;by_cases b:48<=r<;>by_cases a:r<=57
 all_goals
  have z1:(48:Int)<=(r:Int)↔48<=r:=by omega
  have z2:(r:Int)<=57↔r<=57:=by omega
  go_enter Tryz.func108,Tryz.ntmps108
  go_wp2
  all_goals first | (exfalso;omega) | (go_ret;exact ⟨by simp [tf,z1,z2,b,a],0,rfl⟩)
theorem CS (x:Nat) (hx:x<=1114111):0<=tf x/\tf x<=2147483647:=by
 unfold tf;cases decide ((48:Int)<=x)&&decide ((x:Int)<=57)<;>simp only [aj,ae]<;>omega
theorem J7 (s:ByteArray) (w:World) (hs:s.size<=1000000) (b:GL fm w):
  Calls Tryz.prog 63 #[.string s] w λe w'=>e=.returned (.string ⟨(zC s.data.toList).toArray⟩)/\Below w.heap.size w w':=by
 have a:=Tryz.strings_Map_runes 108 #[] (enters_of Tryz.func108 (by kernel_rfl) rfl) tf s w (by omega) (B7 w) (λx hx=>CS x hx) (Qe b);generalize d:(⟨(zC s.data.toList).toArray⟩:ByteArray)=r;have hr':(⟨(Lib.mapD tf s.data.toList).toArray⟩:ByteArray)=r:=d;rw [hr'] at a
 go_enter Tryz.func63,Tryz.ntmps63
 go_wp2_with (go_at_call 109;refine a.mono ?_;rintro e w' ⟨rfl,c⟩)
 go_ret
 exact ⟨rfl,c⟩
end Go.Sh
