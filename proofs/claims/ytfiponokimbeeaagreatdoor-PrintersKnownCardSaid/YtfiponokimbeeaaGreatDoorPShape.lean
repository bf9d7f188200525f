
/- The form of a text (parsers.shape): strings.Map at a function that makes d of each digit.
   Conditions: none. -/
import Derived.Test.YtfiponokimbeeaaGreatDoorAbsStr
import Derived.Test.YtfiponokimbeeaaGreatDoorShelf
import Derived.WalkKit
import Derived.BigCall
import Derived.OwnWalk
import Derived.StillTactics
import Derived.RegionTactic
set_option linter.unusedVariables false
set_option linter.unusedSimpArgs false
set_option maxRecDepth 100000
namespace Go.Sh
open Go.Abs Go.Proofs Go.RowKit
theorem WW {w:World} (h:GL ie w):Lib.Utf8Tabs 7 8 w:=by
 obtain ⟨L,⟨l,n,v,x,r,j,m,q,b,o,⟨c4,p,a,t,rfl,f⟩,y,k,s,u⟩,d,_⟩:=h;have g:=d (7,.cells a.2.1.1 a.2.1.2 (0,0)) (by simp);have e:=d (8,.cells a.2.2.1 a.2.2.2 (0,0)) (by simp);refine ⟨λc hc=>by rw [bp g,f.2.1 c hc],λi hi=>?_⟩;rw [bp e,bp e,uw 2 i];exact f.2.2 i hi
theorem ER (w:World):MapAtRunes Tryz.prog 297 #[] o6 w:=λW r c _=>by
 unfold FnGives;by_cases a:48<=r<;>by_cases b:r<=57
 all_goals
  have z1:(48:Int)<=(r:Int)↔48<=r:=by omega
  have z2:(r:Int)<=57↔r<=57:=by omega
  go_enter Tryz.func297,Tryz.ntmps297
  go_wp2
  all_goals first | (exfalso;omega) | (go_ret;exact ⟨by simp [o6,z1,z2,a,b],0,rfl⟩)
theorem FV (x:Nat) (hx:x<=1114111):0<=o6 x/\o6 x<=2147483647:=by
 unfold o6;cases decide ((48:Int)<=x)&&decide ((x:Int)<=57)<;>simp only [ah,af]<;>omega
theorem Pq (s:ByteArray) (w:World) (hs:s.size<=1000000) (d:GL ie w):
  Calls Tryz.prog 255 #[.string s] w λe w'=>e=.returned (.string ⟨(zu s.data.toList).toArray⟩)/\Below w.heap.size w w':=by
 have a:=Tryz.strings_Map_runes 297 #[] (enters_of Tryz.func297 (by kernel_rfl) rfl) o6 s w (by omega) (ER w) (λx hx=>FV x hx) (WW d);generalize c:(⟨(zu s.data.toList).toArray⟩:ByteArray)=r;have hr':(⟨(Lib.mapD o6 s.data.toList).toArray⟩:ByteArray)=r:=c;rw [hr'] at a
 go_enter Tryz.func255,Tryz.ntmps255
 go_wp2_with (go_at_call 298;refine a.mono ?_;rintro e w' ⟨rfl,b⟩)
 go_ret
 exact ⟨rfl,b⟩
end Go.Sh
