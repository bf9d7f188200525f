
import Derived.Test.YtjkmipianfkncaaGreatDoorHGs
set_option linter.unusedVariables false
set_option linter.unusedSimpArgs false
set_option maxRecDepth 100000
set_option linter.defProp false
namespace Go.Sh
open Go.Abs Go.Proofs Go.RowKit
def yn{w:World}(e:GL jo w){i:Nat}{z:Int}(h:vc[i]?=some z):w.cell? ⟨2,i,none⟩=some (.int .i64 z):=by
 obtain⟨L,⟨n,f,q,c3,m,c,p,u,b,o,⟨j,v,r,s,rfl,a⟩,l,g,k,t⟩,d,_⟩:=e;have:=d (2,.cells f c (0,0)) (by simp);have a:=g i z h;rw[dc]at a;rw[bC this,a]
set_option maxHeartbeats 4000000 in
def sw (n:Nat) (hc:∀(x:Int) (r:Bool×Int),jU n x=some r->kL Tryz.prog 235 [.i .i64 x] (.tp [.b r.1,.i .i64 r.2])) (a m:Int) (r:Int) (h:dR n a m=some r):
  kL Tryz.prog 200 [.i .i64 a,.i .i64 m] (.i .i64 r):=by
 intro w C f hx;simp only [VRs,VR] at hx;obtain ⟨_,_,p,rfl,_,_,rfl,rfl,rfl⟩:=hx;have:C=#[.int .i64 a,.int .i64 m]:=by apply mg;simpa using p
 subst this;clear p;simp only [dR] at h;obtain ⟨e,u,h⟩:=av h;obtain ⟨l,g⟩:=e;have call:Calls Tryz.prog 235 #[.int .i64 a] w λx w'=>x=.returned (.tuple #[.bool l,.int .i64 g])/\Below w.heap.size w w':=
  (hc a (l,g) u w _ f (by simp [VRs,VR])).mono λx w' ⟨y,q,o,B⟩=>by
   simp only [VR,VRs] at o;obtain ⟨D,rfl,_,_,z,rfl,_,_,rfl,rfl,rfl⟩:=o;refine ⟨?_,B.below⟩;rw [q];congr 2;apply mg;simpa using z
 have mixed:Tryz.prog.follows .mixedOrders=true:=by kernel_rfl
 cases c:(l&&(m==2)) with
 | true=>
  simp only [c,aj,ar] at h;subst h;simp only [aB,bv] at c;obtain ⟨rfl,rfl⟩:=c
  go_enter Tryz.func200,Tryz.ntmps200
  go_wp2_with (go_at_call 235;refine call.mono ?_)
  rintro x d ⟨rfl,b1⟩
  go_wp2
  go_ret
  exact ⟨_,rfl,by simp [VR,VRs],Below.fr b1⟩
 | false=>
  simp only [c,af] at h;obtain ⟨j,t,h⟩:=av h;obtain ⟨k,v⟩:=Gz t;have G:wrap64 (m - 1)=(j:Int):=by rw [<-k,EQ];unfold wrap64;rfl
  have s:0<=wrap64 (m - 1):=by omega
  have A:wrap64 (m - 1)<12:=by omega
  have F:(wrap64 (m - 1)).toNat=j:=by omega
  cases l with
  | false=>
   go_enter Tryz.func200,Tryz.ntmps200
   go_wp2_with (go_at_call 235;refine call.mono ?_)
   rintro x d ⟨rfl,b1⟩;have k0:d.cell? ⟨2,j,none⟩=some (.int .i64 r):=yn (f.below b1) h
   go_wp2
   go_ret
   exact ⟨_,rfl,by simp [VR,VRs],Below.fr b1⟩
  | true=>
   have E:¬m=2:=by simpa using c
   go_enter Tryz.func200,Tryz.ntmps200
   go_wp2_with (go_at_call 235;refine call.mono ?_)
   rintro x d ⟨rfl,b1⟩;have k0:d.cell? ⟨2,j,none⟩=some (.int .i64 r):=yn (f.below b1) h
   go_wp2
   go_ret
   exact ⟨_,rfl,by simp [VR,VRs],Below.fr b1⟩
end Go.Sh
