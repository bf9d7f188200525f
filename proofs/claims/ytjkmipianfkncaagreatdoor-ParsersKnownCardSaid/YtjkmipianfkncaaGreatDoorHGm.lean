
import Derived.Test.YtjkmipianfkncaaGreatDoorHGs
set_option linter.unusedVariables false
set_option linter.unusedSimpArgs false
set_option maxRecDepth 100000
set_option linter.defProp false
namespace Go.Sh
open Go.Abs Go.Proofs Go.RowKit
def yR{w:World}(d:GL jG w){i:Nat}{z:Int}(h:vQ[i]?=some z):w.cell? ⟨2,i,none⟩=some (.int .i64 z):=by
 obtain⟨L,⟨u,e,r,c3,m,c,s,n,b,o,⟨c4,j,l,p,rfl,a⟩,t,f,q,k⟩,g,_⟩:=d;have:=g (2,.cells e c (0,0)) (by simp);have a:=f i z h;rw[cU]at a;rw[bB this,a]
set_option maxHeartbeats 4000000 in
def tJ (n:Nat) (hc:∀(x:Int) (r:Bool×Int),km n x=some r->lj Tryz.prog 235 [.i .i64 x] (.tp [.b r.1,.i .i64 r.2])) (a m:Int) (r:Int) (h:ew n a m=some r):
  lj Tryz.prog 200 [.i .i64 a,.i .i64 m] (.i .i64 r):=by
 intro w t k hx;simp only [VRs,VR] at hx;obtain ⟨_,_,p,rfl,_,_,rfl,rfl,rfl⟩:=hx;have:t=#[.int .i64 a,.int .i64 m]:=by apply mS;simpa using p
 subst this;clear p;simp only [ew] at h;obtain ⟨e,q,h⟩:=av h;obtain ⟨l,g⟩:=e;have call:Calls Tryz.prog 235 #[.int .i64 a] w λx w'=>x=.returned (.tuple #[.bool l,.int .i64 g])/\Below w.heap.size w w':=
  (hc a (l,g) q w _ k (by simp [VRs,VR])).mono λx w' ⟨y,B,o,C⟩=>by
   simp only [VR,VRs] at o;obtain ⟨G,rfl,_,_,A,rfl,_,_,rfl,rfl,rfl⟩:=o;refine ⟨?_,C.below⟩;rw [B];congr 2;apply mS;simpa using A
 have mixed:Tryz.prog.follows .mixedOrders=true:=by kernel_rfl
 cases c:(l&&(m==2)) with
 | true=>
  simp only [c,aj,ar] at h;subst h;simp only [aC,bu] at c;obtain ⟨rfl,rfl⟩:=c
  go_enter Tryz.func200,Tryz.ntmps200
  go_wp2_with (go_at_call 235;refine call.mono ?_)
  rintro x d ⟨rfl,b1⟩
  go_wp2
  go_ret
  exact ⟨_,rfl,by simp [VR,VRs],Below.fr b1⟩
 | false=>
  simp only [c,af] at h;obtain ⟨j,s,h⟩:=av h;obtain ⟨f,u⟩:=Hu s;have E:wrap64 (m - 1)=(j:Int):=by rw [<-f,GN];unfold wrap64;rfl
  have v:0<=wrap64 (m - 1):=by omega
  have z:wrap64 (m - 1)<12:=by omega
  have F:(wrap64 (m - 1)).toNat=j:=by omega
  cases l with
  | false=>
   go_enter Tryz.func200,Tryz.ntmps200
   go_wp2_with (go_at_call 235;refine call.mono ?_)
   rintro x d ⟨rfl,b1⟩;have k0:d.cell? ⟨2,j,none⟩=some (.int .i64 r):=yR (k.below b1) h
   go_wp2
   go_ret
   exact ⟨_,rfl,by simp [VR,VRs],Below.fr b1⟩
  | true=>
   have D:¬m=2:=by simpa using c
   go_enter Tryz.func200,Tryz.ntmps200
   go_wp2_with (go_at_call 235;refine call.mono ?_)
   rintro x d ⟨rfl,b1⟩;have k0:d.cell? ⟨2,j,none⟩=some (.int .i64 r):=yR (k.below b1) h
   go_wp2
   go_ret
   exact ⟨_,rfl,by simp [VR,VRs],Below.fr b1⟩
end Go.Sh
