
/- The form of a text (parsers.shape): strings.Map at a function that makes d of each digit.
   Conditions: none. -/
import Derived.Test.YtaogbalpingjhaaGreatDoorAbsStr
import Derived.Test.YtaogbalpingjhaaGreatDoorShelf
import Derived.WalkKit
import Derived.BigCall
import Derived.OwnWalk
import Derived.StillTactics
import Derived.RegionTactic
set_option linter.unusedVariables false
set_option linter.unusedSimpArgs false
set_option maxRecDepth 100000
namespace Go.Sh
open Go.Abs Go.Proofs Go.RowKit
theorem R2 {w:World} (g:GL fP w):Lib.Utf8Tabs 7 8 w:=by
 obtain ⟨L,⟨j,r,l,c3,y,s,n,k,b,o,⟨x,q,a,t,rfl,e⟩,p,m,v,u⟩,d,_⟩:=g;have h:=d (7,.cells a.2.1.1 a.2.1.2 (0,0)) (by simp);have f:=d (8,.cells a.2.2.1 a.2.2.2 (0,0)) (by simp);refine ⟨λc hc=>by rw [aV h,e.2.1 c hc],λi hi=>?_⟩;rw [aV f,aV f,uA 2 i];exact e.2.2 i hi
theorem Cf (w:World):MapAtRunes Tryz.prog 255 #[] mM w:=λW r c _=>by
 unfold FnGives;by_cases a:48<=r<;>by_cases b:r<=57
 all_goals
  have z1:(48:Int)<=(r:Int)↔48<=r:=by omega
  have z2:(r:Int)<=57↔r<=57:=by omega
  go_enter Tryz.func255,Tryz.ntmps255
  go_wp2
  all_goals first | (exfalso;omega) | (go_ret;exact ⟨by simp [mM,z1,z2,a,b],0,rfl⟩)
theorem Bc (x:Nat) (hx:x<=1114111):0<=mM x/\mM x<=2147483647:=by
 unfold mM;cases decide ((48:Int)<=x)&&decide ((x:Int)<=57)<;>simp only [aj,af]<;>omega
theorem KX (s:ByteArray) (w:World) (hs:s.size<=1000000) (b:GL fP w):
  Calls Tryz.prog 236 #[.string s] w λe w'=>e=.returned (.string ⟨(wT s.data.toList).toArray⟩)/\Below w.heap.size w w':=by
 have a:=Tryz.strings_Map_runes 255 #[] (enters_of Tryz.func255 (by kernel_rfl) rfl) mM s w (by omega) (Cf w) (λx hx=>Bc x hx) (R2 b);generalize d:(⟨(wT s.data.toList).toArray⟩:ByteArray)=r;have hr':(⟨(Lib.mapD mM s.data.toList).toArray⟩:ByteArray)=r:=d;rw [hr'] at a
 go_enter Tryz.func236,Tryz.ntmps236
 go_wp2_with (go_at_call 256;refine a.mono ?_;rintro e w' ⟨rfl,c⟩)
 go_ret
 exact ⟨rfl,c⟩
end Go.Sh
