
/- The form of a text (parsers.shape): strings.Map at a function that makes d of each digit.
   Conditions: none. -/
import Derived.Test.YthemneooekobkabGreatDoorAbsStr
import Derived.Test.YthemneooekobkabGreatDoorShelf
import Derived.WalkKit
import Derived.BigCall
import Derived.OwnWalk
import Derived.StillTactics
import Derived.RegionTactic
set_option linter.unusedVariables false
set_option linter.unusedSimpArgs false
set_option maxRecDepth 100000
namespace Go.Sh
open Go.Abs Go.Proofs Go.RowKit
theorem V5 {w:World} (g:GL ip w):Lib.Utf8Tabs 5 6 w:=by
 obtain ⟨L,⟨u,v,j,c3,n,y,k,r,b,o,⟨m,s,a,p,rfl,f⟩,q,t,x,l⟩,e,_⟩:=g;have h:=e (5,.cells a.2.1.1 a.2.1.2 (0,0)) (by simp);have d:=e (6,.cells a.2.2.1 a.2.2.2 (0,0)) (by simp);refine ⟨λc hc=>by rw [bu h,f.2.1 c hc],λi hi=>?_⟩;rw [bu d,bu d,vf 2 i];exact f.2.2 i hi
theorem Ff (w:World):MapAtRunes Tryz.prog 205 #[] pm w:=λW r c _=>by
 unfold FnGives;by_cases b:48<=r<;>by_cases a:r<=57
 all_goals
  have z1:(48:Int)<=(r:Int)↔48<=r:=by omega
  have z2:(r:Int)<=57↔r<=57:=by omega
  go_enter Tryz.func205,Tryz.ntmps205
  go_wp2
  all_goals first | (exfalso;omega) | (go_ret;exact ⟨by simp [pm,z1,z2,b,a],0,rfl⟩)
theorem FM (x:Nat) (hx:x<=1114111):0<=pm x/\pm x<=2147483647:=by
 unfold pm;cases decide ((48:Int)<=x)&&decide ((x:Int)<=57)<;>simp only [ah,af]<;>omega
theorem OJ (s:ByteArray) (w:World) (hs:s.size<=1000000) (d:GL ip w):
  Calls Tryz.prog 151 #[.string s] w λe w'=>e=.returned (.string ⟨(zb s.data.toList).toArray⟩)/\Below w.heap.size w w':=by
 have a:=Tryz.strings_Map_runes 205 #[] (enters_of Tryz.func205 (by kernel_rfl) rfl) pm s w (by omega) (Ff w) (λx hx=>FM x hx) (V5 d);generalize b:(⟨(zb s.data.toList).toArray⟩:ByteArray)=r;have hr':(⟨(Lib.mapD pm s.data.toList).toArray⟩:ByteArray)=r:=b;rw [hr'] at a
 go_enter Tryz.func151,Tryz.ntmps151
 go_wp2_with (go_at_call 206;refine a.mono ?_;rintro e w' ⟨rfl,c⟩)
 go_ret
 exact ⟨rfl,c⟩
end Go.Sh
