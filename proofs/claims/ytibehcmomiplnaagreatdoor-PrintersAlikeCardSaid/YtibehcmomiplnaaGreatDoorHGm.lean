
import Derived.Test.YtibehcmomiplnaaGreatDoorHGs
set_option linter.unusedVariables false
set_option linter.unusedSimpArgs false
set_option maxRecDepth 100000
set_option linter.defProp false
namespace Go.Sh
open Go.Abs Go.Proofs Go.RowKit
def Aj{w:World}(d:GL gX w){i:Nat}{z:Int}(h:wL[i]?=some z):w.cell? ⟨4,i,none⟩=some (.int .i64 z):=by
 obtain⟨L,⟨n,e,j,c3,q,g,l,u,b,o,⟨c4,m,s,k,rfl,a⟩,r,c,t,p⟩,f,_⟩:=d;have:=f (4,.cells e g (0,0)) (by simp);have a:=c i z h;rw[cU]at a;rw[bh this,a]
set_option maxHeartbeats 4000000 in
def uT (n:Nat) (hc:∀(x:Int) (r:Bool×Int),lg n x=some r->nE Tryz.prog 265 [.i .i64 x] (.tp [.b r.1,.i .i64 r.2])) (a m:Int) (r:Int) (h:eV n a m=some r):
  nE Tryz.prog 239 [.i .i64 a,.i .i64 m] (.i .i64 r):=by
 intro w t f hx;simp only [VRs,VR] at hx;obtain ⟨_,_,o,rfl,_,_,rfl,rfl,rfl⟩:=hx;have:t=#[.int .i64 a,.int .i64 m]:=by apply lU;simpa using o
 subst this;clear o;simp only [eV] at h;obtain ⟨e,q,h⟩:=ax h;obtain ⟨l,g⟩:=e;have call:Calls Tryz.prog 265 #[.int .i64 a] w λx w'=>x=.returned (.tuple #[.bool l,.int .i64 g])/\Below w.heap.size w w':=
  (hc a (l,g) q w _ f (by simp [VRs,VR])).mono λx w' ⟨y,z,p,A⟩=>by
   simp only [VR,VRs] at p;obtain ⟨E,rfl,_,_,v,rfl,_,_,rfl,rfl,rfl⟩:=p;refine ⟨?_,A.below⟩;rw [z];congr 2;apply lU;simpa using v
 have mixed:Tryz.prog.follows .mixedOrders=true:=by kernel_rfl
 cases c:(l&&(m==2)) with
 | true=>
  simp only [c,aj,ar] at h;subst h;simp only [aA,bu] at c;obtain ⟨rfl,rfl⟩:=c
  go_enter Tryz.func239,Tryz.ntmps239
  go_wp2_with (go_at_call 265;refine call.mono ?_)
  rintro x d ⟨rfl,b1⟩
  go_wp2
  go_ret
  exact ⟨_,rfl,by simp [VR,VRs],Below.fr b1⟩
 | false=>
  simp only [c,ah] at h;obtain ⟨j,B,h⟩:=ax h;obtain ⟨k,C⟩:=IG B;have D:wrap64 (m - 1)=(j:Int):=by rw [<-k,HD];unfold wrap64;rfl
  have s:0<=wrap64 (m - 1):=by omega
  have u:wrap64 (m - 1)<12:=by omega
  have G:(wrap64 (m - 1)).toNat=j:=by omega
  cases l with
  | false=>
   go_enter Tryz.func239,Tryz.ntmps239
   go_wp2_with (go_at_call 265;refine call.mono ?_)
   rintro x d ⟨rfl,b1⟩;have k0:d.cell? ⟨4,j,none⟩=some (.int .i64 r):=Aj (f.below b1) h
   go_wp2
   go_ret
   exact ⟨_,rfl,by simp [VR,VRs],Below.fr b1⟩
  | true=>
   have F:¬m=2:=by simpa using c
   go_enter Tryz.func239,Tryz.ntmps239
   go_wp2_with (go_at_call 265;refine call.mono ?_)
   rintro x d ⟨rfl,b1⟩;have k0:d.cell? ⟨4,j,none⟩=some (.int .i64 r):=Aj (f.below b1) h
   go_wp2
   go_ret
   exact ⟨_,rfl,by simp [VR,VRs],Below.fr b1⟩
end Go.Sh
