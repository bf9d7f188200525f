
/- The form of a text (parsers.shape): strings.Map at a function that makes d of each digit.
   Conditions: none. -/
import Derived.Test.YthemneooekobkaaGreatDoorAbsStr
import Derived.Test.YthemneooekobkaaGreatDoorShelf
import Derived.WalkKit
import Derived.BigCall
import Derived.OwnWalk
import Derived.StillTactics
import Derived.RegionTactic
set_option linter.unusedVariables false
set_option linter.unusedSimpArgs false
set_option maxRecDepth 100000
namespace Go.Sh
open Go.Abs Go.Proofs Go.RowKit
theorem Xp {w:World} (h:GL jI w):Lib.Utf8Tabs 3 4 w:=by
 obtain ⟨L,⟨q,k,v,n,m,x,y,r,b,o,⟨c4,u,a,l,rfl,d⟩,s,j,t,p⟩,f,_⟩:=h;have g:=f (3,.cells a.2.1.1 a.2.1.2 (0,0)) (by simp);have e:=f (4,.cells a.2.2.1 a.2.2.2 (0,0)) (by simp);refine ⟨λc hc=>by rw [bA g,d.2.1 c hc],λi hi=>?_⟩;rw [bA e,bA e,va 2 i];exact d.2.2 i hi
theorem GR (w:World):MapAtRunes Tryz.prog 108 #[] pB w:=λW r c _=>by
 unfold FnGives;by_cases b:48<=r<;>by_cases a:r<=57
 all_goals
  have z1:(48:Int)<=(r:Int)↔48<=r:=by omega
  have z2:(r:Int)<=57↔r<=57:=by omega
  go_enter Tryz.func108,Tryz.ntmps108
  go_wp2
  all_goals first | (exfalso;omega) | (go_ret;exact ⟨by simp [pB,z1,z2,b,a],0,rfl⟩)
theorem F4 (x:Nat) (hx:x<=1114111):0<=pB x/\pB x<=2147483647:=by
 unfold pB;cases decide ((48:Int)<=x)&&decide ((x:Int)<=57)<;>simp only [ah,af]<;>omega
theorem Qm (s:ByteArray) (w:World) (hs:s.size<=1000000) (c:GL jI w):
  Calls Tryz.prog 63 #[.string s] w λe w'=>e=.returned (.string ⟨(zu s.data.toList).toArray⟩)/\Below w.heap.size w w':=by
 have a:=Tryz.strings_Map_runes 108 #[] (enters_of Tryz.func108 (by kernel_rfl) rfl) pB s w (by omega) (GR w) (λx hx=>F4 x hx) (Xp c);generalize d:(⟨(zu s.data.toList).toArray⟩:ByteArray)=r;have hr':(⟨(Lib.mapD pB s.data.toList).toArray⟩:ByteArray)=r:=d;rw [hr'] at a
 go_enter Tryz.func63,Tryz.ntmps63
 go_wp2_with (go_at_call 109;refine a.mono ?_;rintro e w' ⟨rfl,b⟩)
 go_ret
 exact ⟨rfl,b⟩
end Go.Sh
