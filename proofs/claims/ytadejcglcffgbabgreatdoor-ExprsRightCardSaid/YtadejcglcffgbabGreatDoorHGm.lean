
import Derived.Test.YtadejcglcffgbabGreatDoorHGs
set_option linter.unusedVariables false
set_option linter.unusedSimpArgs false
set_option maxRecDepth 100000
set_option linter.defProp false
namespace Go.Sh
open Go.Abs Go.Proofs Go.RowKit
def vp{w:World}(d:GL ii w){i:Nat}{z:Int}(h:rD[i]?=some z):w.cell? ⟨1,i,none⟩=some (.int .i64 z):=by
 obtain⟨L,⟨q,e,u,c3,s,c,l,m,b,o,⟨c4,k,t,n,rfl,a⟩,r,f,p,j⟩,g,_⟩:=d;have:=g (1,.cells e c (0,0)) (by simp);have a:=f i z h;rw[bV]at a;rw[bB this,a]
set_option maxHeartbeats 4000000 in
def pC (n:Nat) (hc:∀(x:Int) (r:Bool×Int),iv n x=some r->kV Tryz.prog 173 [.i .i64 x] (.tp [.b r.1,.i .i64 r.2])) (a m:Int) (r:Int) (h:dj n a m=some r):
  kV Tryz.prog 134 [.i .i64 a,.i .i64 m] (.i .i64 r):=by
 intro w u o hx;simp only [VRs,VR] at hx;obtain ⟨_,_,p,rfl,_,_,rfl,rfl,rfl⟩:=hx;have:u=#[.int .i64 a,.int .i64 m]:=by apply kH;simpa using p
 subst this;clear p;simp only [dj] at h;obtain ⟨e,D,h⟩:=av h;obtain ⟨l,g⟩:=e;have call:Calls Tryz.prog 173 #[.int .i64 a] w λx w'=>x=.returned (.tuple #[.bool l,.int .i64 g])/\Below w.heap.size w w':=
  (hc a (l,g) D w _ o (by simp [VRs,VR])).mono λx w' ⟨y,C,q,s⟩=>by
   simp only [VR,VRs] at q;obtain ⟨H,rfl,_,_,A,rfl,_,_,rfl,rfl,rfl⟩:=q;refine ⟨?_,s.below⟩;rw [C];congr 2;apply kH;simpa using A
 have mixed:Tryz.prog.follows .mixedOrders=true:=by kernel_rfl
 cases d:(l&&(m==2)) with
 | true=>
  simp only [d,am,aq] at h;subst h;simp only [aC,bI] at d;obtain ⟨rfl,rfl⟩:=d
  go_enter Tryz.func134,Tryz.ntmps134
  go_wp2_with (go_at_call 173;refine call.mono ?_)
  rintro x f ⟨rfl,c⟩
  go_wp2
  go_ret
  exact ⟨_,rfl,by simp [VR,VRs],Below.fr c⟩
 | false=>
  simp only [d,af] at h;obtain ⟨j,B,h⟩:=av h;obtain ⟨k,z⟩:=BQ B;have E:wrap64 (m - 1)=(j:Int):=by rw [<-k,B5];unfold wrap64;rfl
  have t:0<=wrap64 (m - 1):=by omega
  have v:wrap64 (m - 1)<12:=by omega
  have G:(wrap64 (m - 1)).toNat=j:=by omega
  cases l with
  | false=>
   go_enter Tryz.func134,Tryz.ntmps134
   go_wp2_with (go_at_call 173;refine call.mono ?_)
   rintro x f ⟨rfl,c⟩;have k0:f.cell? ⟨1,j,none⟩=some (.int .i64 r):=vp (o.below c) h
   go_wp2
   go_ret
   exact ⟨_,rfl,by simp [VR,VRs],Below.fr c⟩
  | true=>
   have F:¬m=2:=by simpa using d
   go_enter Tryz.func134,Tryz.ntmps134
   go_wp2_with (go_at_call 173;refine call.mono ?_)
   rintro x f ⟨rfl,c⟩;have k0:f.cell? ⟨1,j,none⟩=some (.int .i64 r):=vp (o.below c) h
   go_wp2
   go_ret
   exact ⟨_,rfl,by simp [VR,VRs],Below.fr c⟩
end Go.Sh
