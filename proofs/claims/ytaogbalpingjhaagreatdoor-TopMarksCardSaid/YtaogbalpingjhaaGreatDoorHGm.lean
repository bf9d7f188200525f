
/- months.length looks into a package-level table: its walk, by hand.
   (Numbers of functions and variables are filled in by hg.sh.)
   Conditions: none. -/
import Derived.Test.YtaogbalpingjhaaGreatDoorHGs
set_option linter.unusedVariables false
set_option linter.unusedSimpArgs false
set_option maxRecDepth 100000
namespace Go.Sh
open Go.Abs Go.Proofs Go.RowKit
theorem wn {w:World} (g:GL fP w) {i:Nat} {z:Int} (h:sS[i]?=some z):w.cell? ⟨0,i,none⟩=some (.int .i64 z):=by
 obtain ⟨L,⟨l,e,p,c3,u,d,v,m,b,o,⟨t,q,k,n,rfl,a⟩,j,f,s,r⟩,c,_⟩:=g;have:=c (0,.cells e d (0,0)) (by simp);have a:=f i z h;rw [cb] at a;rw [aV this,a]
set_option maxHeartbeats 4000000 in
theorem qZ (n:Nat) (hc:∀(x:Int) (r:Bool×Int),iQ n x=some r->jh Tryz.prog 123 [.i .i64 x] (.tp [.b r.1,.i .i64 r.2])) (a m:Int) (r:Int) (h:dw n a m=some r):
  jh Tryz.prog 60 [.i .i64 a,.i .i64 m] (.i .i64 r):=by
 intro w A f hx;simp only [VRs,VR] at hx;obtain ⟨_,_,o,rfl,_,_,rfl,rfl,rfl⟩:=hx;have:A=#[.int .i64 a,.int .i64 m]:=by apply jv;simpa using o
 subst this;clear o;simp only [dw] at h;obtain ⟨e,u,h⟩:=ak h;obtain ⟨l,g⟩:=e;have call:Calls Tryz.prog 123 #[.int .i64 a] w λx w'=>x=.returned (.tuple #[.bool l,.int .i64 g])/\Below w.heap.size w w':=
  (hc a (l,g) u w _ f (by simp [VRs,VR])).mono λx w' ⟨y,s,p,B⟩=>by
   simp only [VR,VRs] at p;obtain ⟨D,rfl,_,_,C,rfl,_,_,rfl,rfl,rfl⟩:=p;refine ⟨?_,B.below⟩;rw [s];congr 2;apply jv;simpa using C
 have mixed:Tryz.prog.follows .mixedOrders=true:=by kernel_rfl
 cases c:(l&&(m==2)) with
 | true=>
  simp only [c,aj,ah] at h;subst h;simp only [az,bA] at c;obtain ⟨rfl,rfl⟩:=c
  go_enter Tryz.func60,Tryz.ntmps60
  go_wp2_with (go_at_call 123;refine call.mono ?_)
  rintro x d ⟨rfl,b1⟩
  go_wp2
  go_ret
  exact ⟨_,rfl,by simp [VR,VRs],Below.fr b1⟩
 | false=>
  simp only [c,af] at h;obtain ⟨j,v,h⟩:=ak h;obtain ⟨k,t⟩:=EN v;have E:wrap64 (m - 1)=(j:Int):=by rw [<-k,DG];unfold wrap64;rfl
  have z:0<=wrap64 (m - 1):=by omega
  have q:wrap64 (m - 1)<12:=by omega
  have G:(wrap64 (m - 1)).toNat=j:=by omega
  cases l with
  | false=>
   go_enter Tryz.func60,Tryz.ntmps60
   go_wp2_with (go_at_call 123;refine call.mono ?_)
   rintro x d ⟨rfl,b1⟩;have k0:d.cell? ⟨0,j,none⟩=some (.int .i64 r):=wn (f.below b1) h
   go_wp2
   go_ret
   exact ⟨_,rfl,by simp [VR,VRs],Below.fr b1⟩
  | true=>
   have F:¬m=2:=by simpa using c
   go_enter Tryz.func60,Tryz.ntmps60
   go_wp2_with (go_at_call 123;refine call.mono ?_)
   rintro x d ⟨rfl,b1⟩;have k0:d.cell? ⟨0,j,none⟩=some (.int .i64 r):=wn (f.below b1) h
   go_wp2
   go_ret
   exact ⟨_,rfl,by simp [VR,VRs],Below.fr b1⟩
end Go.Sh
