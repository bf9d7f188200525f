
/- The form of a text (parsers.shape): strings.Map at a function that makes d of each digit.
   Conditions: none. -/
import Derived.Test.YtfiponokimbeeaaGreatDoorAbsStr
import Derived.Test.YtfiponokimbeeaaGreatDoorShelf
import Derived.WalkKit
import Derived.BigCall
import Derived.OwnWalk
import Derived.StillTactics
import Derived.RegionTactic
set_option linter.unusedVariables false
set_option linter.unusedSimpArgs false
set_option maxRecDepth 100000
namespace Go.Sh
open Go.Abs Go.Proofs Go.RowKit
theorem Rr {w:World} (h:GL gf w):Lib.Utf8Tabs 7 8 w:=by
 obtain ⟨L,⟨v,r,y,z,s,l,q,n,b,o,⟨m,u,a,t,rfl,f⟩,x,p,j,k⟩,d,_⟩:=h;have g:=d (7,.cells a.2.1.1 a.2.1.2 (0,0)) (by simp);have e:=d (8,.cells a.2.2.1 a.2.2.2 (0,0)) (by simp);refine ⟨λc hc=>by rw [bf g,f.2.1 c hc],λi hi=>?_⟩;rw [bf e,bf e,wJ 2 i];exact f.2.2 i hi
theorem Ds (w:World):MapAtRunes Tryz.prog 297 #[] ou w:=λW r c _=>by
 unfold FnGives;by_cases b:48<=r<;>by_cases a:r<=57
 all_goals
  have z1:(48:Int)<=(r:Int)↔48<=r:=by omega
  have z2:(r:Int)<=57↔r<=57:=by omega
  go_enter Tryz.func297,Tryz.ntmps297
  go_wp2
  all_goals first | (exfalso;omega) | (go_ret;exact ⟨by simp [ou,z1,z2,b,a],0,rfl⟩)
theorem DD (x:Nat) (hx:x<=1114111):0<=ou x/\ou x<=2147483647:=by
 unfold ou;cases decide ((48:Int)<=x)&&decide ((x:Int)<=57)<;>simp only [aj,ah]<;>omega
theorem LF (s:ByteArray) (w:World) (hs:s.size<=1000000) (b:GL gf w):
  Calls Tryz.prog 255 #[.string s] w λe w'=>e=.returned (.string ⟨(yH s.data.toList).toArray⟩)/\Below w.heap.size w w':=by
 have a:=Tryz.strings_Map_runes 297 #[] (enters_of Tryz.func297 (by kernel_rfl) rfl) ou s w (by omega) (Ds w) (λx hx=>DD x hx) (Rr b);generalize c:(⟨(yH s.data.toList).toArray⟩:ByteArray)=r;have hr':(⟨(Lib.mapD ou s.data.toList).toArray⟩:ByteArray)=r:=c;rw [hr'] at a
 go_enter Tryz.func255,Tryz.ntmps255
 go_wp2_with (go_at_call 298;refine a.mono ?_;rintro e w' ⟨rfl,d⟩)
 go_ret
 exact ⟨rfl,d⟩
end Go.Sh
