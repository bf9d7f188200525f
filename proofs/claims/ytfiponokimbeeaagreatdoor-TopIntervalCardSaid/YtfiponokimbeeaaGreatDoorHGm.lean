
/- months.length looks into a package-level table: its walk, by hand.
   (Numbers of functions and variables are filled in by hg.sh.)
   Conditions: none. -/
import Derived.Test.YtfiponokimbeeaaGreatDoorHGs
set_option linter.unusedVariables false
set_option linter.unusedSimpArgs false
set_option maxRecDepth 100000
namespace Go.Sh
open Go.Abs Go.Proofs Go.RowKit
theorem xk {w:World} (c:GL f7 w) {i:Nat} {z:Int} (h:ui[i]?=some z):w.cell? ⟨3,i,none⟩=some (.int .i64 z):=by
 obtain ⟨L,⟨m,e,t,s,j,d,n,r,b,o,⟨v,k,p,q,rfl,a⟩,u,g,x,l⟩,f,_⟩:=c;have:=f (3,.cells e d (0,0)) (by simp);have a:=g i z h;rw [cj] at a;rw [be this,a]
set_option maxHeartbeats 4000000 in
theorem rV (n:Nat) (hc:∀(x:Int) (r:Bool×Int),jl n x=some r->jD Tryz.prog 248 [.i .i64 x] (.tp [.b r.1,.i .i64 r.2])) (a m:Int) (r:Int) (h:dE n a m=some r):
  jD Tryz.prog 188 [.i .i64 a,.i .i64 m] (.i .i64 r):=by
 intro w t f hx;simp only [VRs,VR] at hx;obtain ⟨_,_,p,rfl,_,_,rfl,rfl,rfl⟩:=hx;have:t=#[.int .i64 a,.int .i64 m]:=by apply jK;simpa using p
 subst this;clear p;simp only [dE] at h;obtain ⟨e,u,h⟩:=au h;obtain ⟨l,g⟩:=e;have call:Calls Tryz.prog 248 #[.int .i64 a] w λx w'=>x=.returned (.tuple #[.bool l,.int .i64 g])/\Below w.heap.size w w':=
  (hc a (l,g) u w _ f (by simp [VRs,VR])).mono λx w' ⟨y,A,o,C⟩=>by
   simp only [VR,VRs] at o;obtain ⟨E,rfl,_,_,B,rfl,_,_,rfl,rfl,rfl⟩:=o;refine ⟨?_,C.below⟩;rw [A];congr 2;apply jK;simpa using B
 have mixed:Tryz.prog.follows .mixedOrders=true:=by kernel_rfl
 cases c:(l&&(m==2)) with
 | true=>
  simp only [c,aj,ak] at h;subst h;simp only [aB,bp] at c;obtain ⟨rfl,rfl⟩:=c
  go_enter Tryz.func188,Tryz.ntmps188
  go_wp2_with (go_at_call 248;refine call.mono ?_)
  rintro x d ⟨rfl,b1⟩
  go_wp2
  go_ret
  exact ⟨_,rfl,by simp [VR,VRs],Below.fr b1⟩
 | false=>
  simp only [c,af] at h;obtain ⟨j,v,h⟩:=au h;obtain ⟨k,q⟩:=E2 v;have F:wrap64 (m - 1)=(j:Int):=by rw [<-k,FL];unfold wrap64;rfl
  have s:0<=wrap64 (m - 1):=by omega
  have z:wrap64 (m - 1)<12:=by omega
  have G:(wrap64 (m - 1)).toNat=j:=by omega
  cases l with
  | false=>
   go_enter Tryz.func188,Tryz.ntmps188
   go_wp2_with (go_at_call 248;refine call.mono ?_)
   rintro x d ⟨rfl,b1⟩;have k0:d.cell? ⟨3,j,none⟩=some (.int .i64 r):=xk (f.below b1) h
   go_wp2
   go_ret
   exact ⟨_,rfl,by simp [VR,VRs],Below.fr b1⟩
  | true=>
   have D:¬m=2:=by simpa using c
   go_enter Tryz.func188,Tryz.ntmps188
   go_wp2_with (go_at_call 248;refine call.mono ?_)
   rintro x d ⟨rfl,b1⟩;have k0:d.cell? ⟨3,j,none⟩=some (.int .i64 r):=xk (f.below b1) h
   go_wp2
   go_ret
   exact ⟨_,rfl,by simp [VR,VRs],Below.fr b1⟩
end Go.Sh
