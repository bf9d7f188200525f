
/- The form of a text (parsers.shape): strings.Map at a function that makes d of each digit.
   Conditions: none. -/
import Derived.Test.YtaogbalpingjhaaGreatDoorAbsStr
import Derived.Test.YtaogbalpingjhaaGreatDoorShelf
import Derived.WalkKit
import Derived.BigCall
import Derived.OwnWalk
import Derived.StillTactics
import Derived.RegionTactic
set_option linter.unusedVariables false
set_option linter.unusedSimpArgs false
set_option maxRecDepth 100000
namespace Go.Sh
open Go.Abs Go.Proofs Go.RowKit
theorem Ji {w:World} (g:GL dH w):Lib.Utf8Tabs 7 8 w:=by
 obtain ⟨L,⟨y,k,r,q,j,u,s,l,b,o,⟨c4,m,a,n,rfl,e⟩,x,v,t,p⟩,f,_⟩:=g;have h:=f (7,.cells a.2.1.1 a.2.1.2 (0,0)) (by simp);have d:=f (8,.cells a.2.2.1 a.2.2.2 (0,0)) (by simp);refine ⟨λc hc=>by rw [aO h,e.2.1 c hc],λi hi=>?_⟩;rw [aO d,aO d,qE 2 i];exact e.2.2 i hi
theorem xb (w:World):MapAtRunes Tryz.prog 255 #[] pm w:=λW r e _=>by
 unfold FnGives;by_cases a:48<=r<;>by_cases b:r<=57
 all_goals
  have c:(48:Int)<=(r:Int)↔48<=r:=by omega
  have d:(r:Int)<=57↔r<=57:=by omega
  go_enter Tryz.func255,Tryz.ntmps255
  go_wp2
  all_goals first | (exfalso;omega) | (go_ret;exact ⟨by simp [pm,c,d,a,b],0,rfl⟩)
theorem xc (x:Nat) (a:x<=1114111):0<=pm x/\pm x<=2147483647:=by
 unfold pm;cases decide ((48:Int)<=x)&&decide ((x:Int)<=57)<;>simp only [ar,af]<;>omega
theorem Et (s:ByteArray) (w:World) (g:s.size<=1000000) (c:GL dH w):
  Calls Tryz.prog 236 #[.string s] w λe w'=>e=.returned (.string ⟨(vK s.data.toList).toArray⟩)/\Below w.heap.size w w':=by
 have a:=Tryz.strings_Map_runes 255 #[] (enters_of Tryz.func255 (by kernel_rfl) rfl) pm s w (by omega) (xb w) (λx f=>xc x f) (Ji c);generalize b:(⟨(vK s.data.toList).toArray⟩:ByteArray)=r;have hr':(⟨(Lib.mapD pm s.data.toList).toArray⟩:ByteArray)=r:=b;rw [hr'] at a
 go_enter Tryz.func236,Tryz.ntmps236
 go_wp2_with (go_at_call 256;refine a.mono ?_;rintro e w' ⟨rfl,d⟩)
 go_ret
 exact ⟨rfl,d⟩
end Go.Sh
