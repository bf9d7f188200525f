
/- months.length looks into a package-level table: its walk, by hand.
   (Numbers of functions and variables are filled in by hg.sh.)
   Conditions: none. -/
import Derived.Test.YtfiponokimbeeaaGreatDoorHGs
set_option linter.unusedVariables false
set_option linter.unusedSimpArgs false
set_option maxRecDepth 100000
namespace Go.Sh
open Go.Abs Go.Proofs Go.RowKit
theorem yD {w:World} (g:GL gf w) {i:Nat} {z:Int} (h:uN[i]?=some z):w.cell? ⟨3,i,none⟩=some (.int .i64 z):=by
 obtain ⟨L,⟨t,f,v,x,p,d,n,m,b,o,⟨l,s,q,r,rfl,a⟩,u,e,j,k⟩,c,_⟩:=g;have:=c (3,.cells f d (0,0)) (by simp);have a:=e i z h;rw [cP] at a;rw [bf this,a]
set_option maxHeartbeats 4000000 in
theorem tz (n:Nat) (hc:∀(x:Int) (r:Bool×Int),jr n x=some r->jN Tryz.prog 248 [.i .i64 x] (.tp [.b r.1,.i .i64 r.2])) (a m:Int) (r:Int) (h:dS n a m=some r):
  jN Tryz.prog 188 [.i .i64 a,.i .i64 m] (.i .i64 r):=by
 intro w C f hx;simp only [VRs,VR] at hx;obtain ⟨_,_,o,rfl,_,_,rfl,rfl,rfl⟩:=hx;have:C=#[.int .i64 a,.int .i64 m]:=by apply jQ;simpa using o
 subst this;clear o;simp only [dS] at h;obtain ⟨e,B,h⟩:=ar h;obtain ⟨l,g⟩:=e;have call:Calls Tryz.prog 248 #[.int .i64 a] w λx w'=>x=.returned (.tuple #[.bool l,.int .i64 g])/\Below w.heap.size w w':=
  (hc a (l,g) B w _ f (by simp [VRs,VR])).mono λx w' ⟨y,u,p,q⟩=>by
   simp only [VR,VRs] at p;obtain ⟨D,rfl,_,_,t,rfl,_,_,rfl,rfl,rfl⟩:=p;refine ⟨?_,q.below⟩;rw [u];congr 2;apply jQ;simpa using t
 have mixed:Tryz.prog.follows .mixedOrders=true:=by kernel_rfl
 cases c:(l&&(m==2)) with
 | true=>
  simp only [c,aj,ak] at h;subst h;simp only [az,bQ] at c;obtain ⟨rfl,rfl⟩:=c
  go_enter Tryz.func188,Tryz.ntmps188
  go_wp2_with (go_at_call 248;refine call.mono ?_)
  rintro x d ⟨rfl,b1⟩
  go_wp2
  go_ret
  exact ⟨_,rfl,by simp [VR,VRs],Below.fr b1⟩
 | false=>
  simp only [c,ah] at h;obtain ⟨j,s,h⟩:=ar h;obtain ⟨k,v⟩:=Fh s;have G:wrap64 (m - 1)=(j:Int):=by rw [<-k,EO];unfold wrap64;rfl
  have z:0<=wrap64 (m - 1):=by omega
  have A:wrap64 (m - 1)<12:=by omega
  have E:(wrap64 (m - 1)).toNat=j:=by omega
  cases l with
  | false=>
   go_enter Tryz.func188,Tryz.ntmps188
   go_wp2_with (go_at_call 248;refine call.mono ?_)
   rintro x d ⟨rfl,b1⟩;have k0:d.cell? ⟨3,j,none⟩=some (.int .i64 r):=yD (f.below b1) h
   go_wp2
   go_ret
   exact ⟨_,rfl,by simp [VR,VRs],Below.fr b1⟩
  | true=>
   have F:¬m=2:=by simpa using c
   go_enter Tryz.func188,Tryz.ntmps188
   go_wp2_with (go_at_call 248;refine call.mono ?_)
   rintro x d ⟨rfl,b1⟩;have k0:d.cell? ⟨3,j,none⟩=some (.int .i64 r):=yD (f.below b1) h
   go_wp2
   go_ret
   exact ⟨_,rfl,by simp [VR,VRs],Below.fr b1⟩
end Go.Sh
