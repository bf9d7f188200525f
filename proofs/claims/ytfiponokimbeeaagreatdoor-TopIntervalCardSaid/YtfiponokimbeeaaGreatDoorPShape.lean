
/- The form of a text (parsers.shape): strings.Map at a function that makes d of each digit.
   Conditions: none. -/
import Derived.Test.YtfiponokimbeeaaGreatDoorAbsStr
import Derived.Test.YtfiponokimbeeaaGreatDoorShelf
import Derived.WalkKit
import Derived.BigCall
import Derived.OwnWalk
import Derived.StillTactics
import Derived.RegionTactic
set_option linter.unusedVariables false
set_option linter.unusedSimpArgs false
set_option maxRecDepth 100000
namespace Go.Sh
open Go.Abs Go.Proofs Go.RowKit
theorem Tv {w:World} (h:GL f7 w):Lib.Utf8Tabs 7 8 w:=by
 obtain ⟨L,⟨m,p,u,t,j,n,q,s,b,o,⟨y,k,a,r,rfl,d⟩,v,x,z,l⟩,e,_⟩:=h;have g:=e (7,.cells a.2.1.1 a.2.1.2 (0,0)) (by simp);have f:=e (8,.cells a.2.2.1 a.2.2.2 (0,0)) (by simp);refine ⟨λc hc=>by rw [be g,d.2.1 c hc],λi hi=>?_⟩;rw [be f,be f,wE 2 i];exact d.2.2 i hi
theorem Ds (w:World):MapAtRunes Tryz.prog 297 #[] m6 w:=λW r c _=>by
 unfold FnGives;by_cases b:48<=r<;>by_cases a:r<=57
 all_goals
  have z1:(48:Int)<=(r:Int)↔48<=r:=by omega
  have z2:(r:Int)<=57↔r<=57:=by omega
  go_enter Tryz.func297,Tryz.ntmps297
  go_wp2
  all_goals first | (exfalso;omega) | (go_ret;exact ⟨by simp [m6,z1,z2,b,a],0,rfl⟩)
theorem DX (x:Nat) (hx:x<=1114111):0<=m6 x/\m6 x<=2147483647:=by
 unfold m6;cases decide ((48:Int)<=x)&&decide ((x:Int)<=57)<;>simp only [aj,af]<;>omega
theorem MX (s:ByteArray) (w:World) (hs:s.size<=1000000) (d:GL f7 w):
  Calls Tryz.prog 255 #[.string s] w λe w'=>e=.returned (.string ⟨(xA s.data.toList).toArray⟩)/\Below w.heap.size w w':=by
 have a:=Tryz.strings_Map_runes 297 #[] (enters_of Tryz.func297 (by kernel_rfl) rfl) m6 s w (by omega) (Ds w) (λx hx=>DX x hx) (Tv d);generalize b:(⟨(xA s.data.toList).toArray⟩:ByteArray)=r;have hr':(⟨(Lib.mapD m6 s.data.toList).toArray⟩:ByteArray)=r:=b;rw [hr'] at a
 go_enter Tryz.func255,Tryz.ntmps255
 go_wp2_with (go_at_call 298;refine a.mono ?_;rintro e w' ⟨rfl,c⟩)
 go_ret
 exact ⟨rfl,c⟩
end Go.Sh
