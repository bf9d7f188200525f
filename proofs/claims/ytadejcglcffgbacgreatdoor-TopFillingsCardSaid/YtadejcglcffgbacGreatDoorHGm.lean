
import Derived.Test.YtadejcglcffgbacGreatDoorHGs
set_option linter.unusedVariables false
set_option linter.unusedSimpArgs false
set_option maxRecDepth 100000
set_option linter.defProp false
namespace Go.Sh
open Go.Abs Go.Proofs Go.RowKit
def vc{w:World}(e:GL dY w){i:Nat}{z:Int}(h:rk[i]?=some z):w.cell? ⟨0,i,none⟩=some (.int .i64 z):=by
 obtain⟨L,⟨p,f,k,c3,j,d,n,g,b,o,⟨c4,m,l,q,rfl,a⟩,h0,h1,h2,r⟩,c,_⟩:=e;have:=c (0,.cells f d (0,0)) (by simp);have a:=h1 i z h;rw[ci]at a;rw[aN this,a]
set_option maxHeartbeats 4000000 in
def pf (n:Nat) (hc:∀(x:Int) (r:Bool×Int),gS n x=some r->il Tryz.prog 121 [.i .i64 x] (.tp [.b r.1,.i .i64 r.2])) (a m:Int) (r:Int) (h:cf n a m=some r):
  il Tryz.prog 77 [.i .i64 a,.i .i64 m] (.i .i64 r):=by
 intro w z k s;simp only [VRs,VR] at s;obtain ⟨_,_,q,rfl,_,_,rfl,rfl,rfl⟩:=s;have:z=#[.int .i64 a,.int .i64 m]:=by apply gQ;simpa using q
 subst this;clear q;simp only [cf] at h;obtain ⟨e,B,h⟩:=ah h;obtain ⟨l,g⟩:=e;have call:Calls Tryz.prog 121 #[.int .i64 a] w λx w'=>x=.returned (.tuple #[.bool l,.int .i64 g])/\Below w.heap.size w w':=
  (hc a (l,g) B w _ k (by simp [VRs,VR])).mono λx w' ⟨y,v,p,u⟩=>by
   simp only [VR,VRs] at p;obtain ⟨F,rfl,_,_,t,rfl,_,_,rfl,rfl,rfl⟩:=p;refine ⟨?_,u.below⟩;rw [v];congr 2;apply gQ;simpa using t
 have mixed:Tryz.prog.follows .mixedOrders=true:=by kernel_rfl
 cases d:(l&&(m==2)) with
 | true=>
  simp only [d,aj,af] at h;subst h;simp only [aw,bI] at d;obtain ⟨rfl,rfl⟩:=d
  go_enter Tryz.func77,Tryz.ntmps77
  go_wp2_with (go_at_call 121;refine call.mono ?_)
  rintro x f ⟨rfl,c⟩
  go_wp2
  go_ret
  exact ⟨_,rfl,by simp [VR,VRs],Below.fr c⟩
 | false=>
  simp only [d,ae] at h;obtain ⟨j,C,h⟩:=ah h;obtain ⟨o,A⟩:=Ba C;have H:wrap64 (m - 1)=(j:Int):=by rw [<-o,Bt];unfold wrap64;rfl
  have D:0<=wrap64 (m - 1):=by omega
  have E:wrap64 (m - 1)<12:=by omega
  have G:(wrap64 (m - 1)).toNat=j:=by omega
  cases l with
  | false=>
   go_enter Tryz.func77,Tryz.ntmps77
   go_wp2_with (go_at_call 121;refine call.mono ?_)
   rintro x f ⟨rfl,c⟩;have k0:f.cell? ⟨0,j,none⟩=some (.int .i64 r):=vc (k.below c) h
   go_wp2
   go_ret
   exact ⟨_,rfl,by simp [VR,VRs],Below.fr c⟩
  | true=>
   have hm:¬m=2:=by simpa using d
   go_enter Tryz.func77,Tryz.ntmps77
   go_wp2_with (go_at_call 121;refine call.mono ?_)
   rintro x f ⟨rfl,c⟩;have k0:f.cell? ⟨0,j,none⟩=some (.int .i64 r):=vc (k.below c) h
   go_wp2
   go_ret
   exact ⟨_,rfl,by simp [VR,VRs],Below.fr c⟩
end Go.Sh
