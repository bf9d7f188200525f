
import Derived.Test.YtadejcglcffgbacGreatDoorShF
import Derived.Test.YtadejcglcffgbacGreatDoorProg
import Derived.WalkKit
import Derived.BigCall
import Derived.OwnWalk
import Derived.StillTactics
import Derived.RegionTactic
set_option linter.unusedVariables false
set_option linter.unusedSimpArgs false
set_option maxRecDepth 100000
set_option linter.defProp false
namespace Go.Sh
open Go.Abs Go.Proofs Go.RowKit
def A2{w:World}(e:GL dY w){i:Nat}{z:Int}(h:nG[i]?=some z):w.cell? ⟨4,i,none⟩=some (.int .i64 z):=by
 obtain⟨L,⟨f,m,j,c3,c,k,p,g,b,o,⟨c4,n,l,q,rfl,a⟩,h0,h1,h2,r⟩,d,_⟩:=e;have:=d (4,.cells f c (0,0)) (by simp);have a:=h0 i z h;rw[ci]at a;rw[aN this,a]
def Ba{n:Nat}{i:Int}{j:Nat}(h:ix n i=some j):i=(j:Int)/\j<n:=by
 unfold ix at h;split at h
 ·rename_i a;simp only[af]at h;omega
 ·cases h
def zg{j:Nat}{q:Int×Int}(h:qQ[j]?=some q):nG[j*2]?=some q.1/\nG[j*2+1]?=some q.2:=by
 have a:j<21:=by
  rcases aA j 21 with b | b
  ·exact b
  ·rw[ec (by simpa[qQ]using b)]at h;cases h
 have key:∀j:Fin 21,∃q,qQ[j.1]?=some q/\nG[j.1*2]?=some q.1/\nG[j.1*2+1]?=some q.2:=by
  have:((List.range 21).all λj=>match qQ[j]? with | some q=>nG[j*2]?==some q.1&&nG[j*2+1]?==some q.2 | none=>false)=true:=by decide
  intro⟨j,a⟩;have h1:=(ct.1 this) j (by simpa using a);simp only;split at h1
  ·rename_i q c;simp only[aw,bI]at h1;exact⟨q,c,h1⟩
  ·cases h1
 obtain⟨d,h1,h2⟩:=key ⟨j,a⟩;simp only at h1 h2;rw[h]at h1;cases h1;exact h2
set_option maxHeartbeats 4000000 in
def oh (n:Nat) (hc:∀(x:Int) (r:Int),cH n x=some r->il Tryz.prog 85 [.i .i64 x] (.i .i64 r)) (a:Int) (r:Int×Int×Int) (h:fq n a=some r):
  il Tryz.prog 169 [.i .i64 a] (.tp [.i .i64 r.1,.i .i64 r.2.1,.i .i64 r.2.2]):=by
 intro w v k s;simp only [VRs,VR] at s;obtain ⟨_,_,p,rfl,rfl⟩:=s;have:v=#[.int .i64 a]:=by apply gQ;simpa using p
 subst this;clear p;simp only [fq] at h;obtain ⟨e,A,h⟩:=ah h;have call:∀b:World,GL dY b->Calls Tryz.prog 85 #[.int .i64 a] b λx w'=>x=.returned (.int .i64 e)/\Below b.heap.size b w':=λb c=>
  (hc a e A b _ c (by simp [VRs,VR])).mono λx w' ⟨y,u,o,t⟩=>by
   simp only [VR] at o;exact ⟨by rw [u,o],t.below⟩
 cases g:(e != 0) with
 | true=>
  rw [g] at h;simp only [aj,af] at h;subst h;have E:¬e=0:=by simpa using g
  go_enter Tryz.func169,Tryz.ntmps169
  go_wp2_with (go_at_call 85;refine (call _ k).mono ?_)
  rintro x b ⟨rfl,f⟩
  go_wp2
  go_ret3
  exact ⟨_,rfl,by simp [VR,VRs],Below.fr f⟩
 | false=>
  rw [g] at h;simp only [ae] at h;obtain ⟨j,B,h⟩:=ah h;obtain ⟨q,F,h⟩:=ah h;simp only [af] at h;subst h;have m:e=0:=by simpa using g
  subst m
  go_enter Tryz.func169,Tryz.ntmps169
  go_wp2_with (go_at_call 85;refine (call _ k).mono ?_)
  rintro x b ⟨rfl,f⟩;have c:GL dY b:=k.below f;obtain ⟨l,z⟩:=Ba B;have d:=zg F;have H:wrap64 (a - 21)=(j:Int):=by rw [<-l,Bt];unfold wrap64;rfl
  have C:0<=wrap64 (a - 21):=by omega
  have D:wrap64 (a - 21)<21:=by omega
  have G:(wrap64 (a - 21)).toNat=j:=by omega
  have k0:b.cell? ⟨4,j*2,none⟩=some (.int .i64 q.1):=A2 c d.1;have k1:b.cell? ⟨4,j*2+1,none⟩=some (.int .i64 q.2):=A2 c d.2;have mixed:Tryz.prog.follows .mixedOrders=true:=by kernel_rfl
  go_wp2_with fail
  go_region
  go_wp2
  go_ret3
  refine ⟨_,rfl,by simp [VR,VRs],Below.fr ?_⟩;exact ((f.alloc f.size _).drew)
end Go.Sh
