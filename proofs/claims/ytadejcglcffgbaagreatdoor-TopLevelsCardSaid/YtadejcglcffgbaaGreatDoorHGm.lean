
import Derived.Test.YtadejcglcffgbaaGreatDoorHGs
set_option linter.unusedVariables false
set_option linter.unusedSimpArgs false
set_option maxRecDepth 100000
set_option linter.defProp false
namespace Go.Sh
open Go.Abs Go.Proofs Go.RowKit
def zH{w:World}(f:GL gQ w){i:Nat}{z:Int}(h:wB[i]?=some z):w.cell? ⟨4,i,none⟩=some (.int .i64 z):=by
 obtain⟨L,⟨n,g,u,c3,m,d,r,t,b,o,⟨c4,l,p,s,rfl,a⟩,q,c,j,k⟩,e,_⟩:=f;have:=e (4,.cells g d (0,0)) (by simp);have a:=c i z h;rw[cK]at a;rw[bg this,a]
set_option maxHeartbeats 4000000 in
def uI (n:Nat) (hc:∀(x:Int) (r:Bool×Int),kG n x=some r->na Tryz.prog 252 [.i .i64 x] (.tp [.b r.1,.i .i64 r.2])) (a m:Int) (r:Int) (h:eP n a m=some r):
  na Tryz.prog 189 [.i .i64 a,.i .i64 m] (.i .i64 r):=by
 intro w z f hx;simp only [VRs,VR] at hx;obtain ⟨_,_,p,rfl,_,_,rfl,rfl,rfl⟩:=hx;have:z=#[.int .i64 a,.int .i64 m]:=by apply lq;simpa using p
 subst this;clear p;simp only [eP] at h;obtain ⟨e,C,h⟩:=ax h;obtain ⟨l,g⟩:=e;have call:Calls Tryz.prog 252 #[.int .i64 a] w λx w'=>x=.returned (.tuple #[.bool l,.int .i64 g])/\Below w.heap.size w w':=
  (hc a (l,g) C w _ f (by simp [VRs,VR])).mono λx w' ⟨y,q,o,s⟩=>by
   simp only [VR,VRs] at o;obtain ⟨F,rfl,_,_,u,rfl,_,_,rfl,rfl,rfl⟩:=o;refine ⟨?_,s.below⟩;rw [q];congr 2;apply lq;simpa using u
 have mixed:Tryz.prog.follows .mixedOrders=true:=by kernel_rfl
 cases c:(l&&(m==2)) with
 | true=>
  simp only [c,aj,aq] at h;subst h;simp only [aB,bL] at c;obtain ⟨rfl,rfl⟩:=c
  go_enter Tryz.func189,Tryz.ntmps189
  go_wp2_with (go_at_call 252;refine call.mono ?_)
  rintro x d ⟨rfl,b1⟩
  go_wp2
  go_ret
  exact ⟨_,rfl,by simp [VR,VRs],Below.fr b1⟩
 | false=>
  simp only [c,af] at h;obtain ⟨j,B,h⟩:=ax h;obtain ⟨k,v⟩:=IQ B;have G:wrap64 (m - 1)=(j:Int):=by rw [<-k,HF];unfold wrap64;rfl
  have A:0<=wrap64 (m - 1):=by omega
  have t:wrap64 (m - 1)<12:=by omega
  have D:(wrap64 (m - 1)).toNat=j:=by omega
  cases l with
  | false=>
   go_enter Tryz.func189,Tryz.ntmps189
   go_wp2_with (go_at_call 252;refine call.mono ?_)
   rintro x d ⟨rfl,b1⟩;have k0:d.cell? ⟨4,j,none⟩=some (.int .i64 r):=zH (f.below b1) h
   go_wp2
   go_ret
   exact ⟨_,rfl,by simp [VR,VRs],Below.fr b1⟩
  | true=>
   have E:¬m=2:=by simpa using c
   go_enter Tryz.func189,Tryz.ntmps189
   go_wp2_with (go_at_call 252;refine call.mono ?_)
   rintro x d ⟨rfl,b1⟩;have k0:d.cell? ⟨4,j,none⟩=some (.int .i64 r):=zH (f.below b1) h
   go_wp2
   go_ret
   exact ⟨_,rfl,by simp [VR,VRs],Below.fr b1⟩
end Go.Sh
