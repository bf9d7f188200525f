
/- months.length looks into a package-level table: its walk, by hand.
   (Numbers of functions and variables are filled in by hg.sh.)
   Conditions: none. -/
import Derived.Test.YthemneooekobkaaGreatDoorHGs
set_option linter.unusedVariables false
set_option linter.unusedSimpArgs false
set_option maxRecDepth 100000
namespace Go.Sh
open Go.Abs Go.Proofs Go.RowKit
theorem wF {w:World} (c:GL iM w) {i:Nat} {z:Int} (h:sZ[i]?=some z):w.cell? ⟨6,i,none⟩=some (.int .i64 z):=by
 obtain ⟨L,⟨u,f,p,c3,m,d,n,l,b,o,⟨r,s,v,j,rfl,a⟩,k,g,q,t⟩,e,_⟩:=c;have:=e (6,.cells f d (0,0)) (by simp);have a:=g i z h;rw [cL] at a;rw [bz this,a]
set_option maxHeartbeats 4000000 in
theorem rf (n:Nat) (hc:∀(x:Int) (r:Bool×Int),jd n x=some r->jP Tryz.prog 292 [.i .i64 x] (.tp [.b r.1,.i .i64 r.2])) (a m:Int) (r:Int) (h:dH n a m=some r):
  jP Tryz.prog 271 [.i .i64 a,.i .i64 m] (.i .i64 r):=by
 intro w C k p;simp only [VRs,VR] at p;obtain ⟨_,_,o,rfl,_,_,rfl,rfl,rfl⟩:=p;have:C=#[.int .i64 a,.int .i64 m]:=by apply kY;simpa using o
 subst this;clear o;simp only [dH] at h;obtain ⟨e,t,h⟩:=av h;obtain ⟨l,g⟩:=e;have call:Calls Tryz.prog 292 #[.int .i64 a] w λx w'=>x=.returned (.tuple #[.bool l,.int .i64 g])/\Below w.heap.size w w':=
  (hc a (l,g) t w _ k (by simp [VRs,VR])).mono λx w' ⟨y,A,q,B⟩=>by
   simp only [VR,VRs] at q;obtain ⟨E,rfl,_,_,u,rfl,_,_,rfl,rfl,rfl⟩:=q;refine ⟨?_,B.below⟩;rw [A];congr 2;apply kY;simpa using u
 have mixed:Tryz.prog.follows .mixedOrders=true:=by kernel_rfl
 cases c:(l&&(m==2)) with
 | true=>
  simp only [c,aj,aq] at h;subst h;simp only [aA,bg] at c;obtain ⟨rfl,rfl⟩:=c
  go_enter Tryz.func271,Tryz.ntmps271
  go_wp2_with (go_at_call 292;refine call.mono ?_)
  rintro x d ⟨rfl,b1⟩
  go_wp2
  go_ret
  exact ⟨_,rfl,by simp [VR,VRs],Below.fr b1⟩
 | false=>
  simp only [c,af] at h;obtain ⟨j,v,h⟩:=av h;obtain ⟨f,D⟩:=Fa v;have F:wrap64 (m - 1)=(j:Int):=by rw [<-f,Di];unfold wrap64;rfl
  have z:0<=wrap64 (m - 1):=by omega
  have s:wrap64 (m - 1)<12:=by omega
  have G:(wrap64 (m - 1)).toNat=j:=by omega
  cases l with
  | false=>
   go_enter Tryz.func271,Tryz.ntmps271
   go_wp2_with (go_at_call 292;refine call.mono ?_)
   rintro x d ⟨rfl,b1⟩;have k0:d.cell? ⟨6,j,none⟩=some (.int .i64 r):=wF (k.below b1) h
   go_wp2
   go_ret
   exact ⟨_,rfl,by simp [VR,VRs],Below.fr b1⟩
  | true=>
   have H:¬m=2:=by simpa using c
   go_enter Tryz.func271,Tryz.ntmps271
   go_wp2_with (go_at_call 292;refine call.mono ?_)
   rintro x d ⟨rfl,b1⟩;have k0:d.cell? ⟨6,j,none⟩=some (.int .i64 r):=wF (k.below b1) h
   go_wp2
   go_ret
   exact ⟨_,rfl,by simp [VR,VRs],Below.fr b1⟩
end Go.Sh
