
import Derived.Test.YtjkmipianfkncaaGreatDoorShK
import Derived.Test.YtjkmipianfkncaaGreatDoorProg
import Derived.WalkKit
import Derived.BigCall
import Derived.OwnWalk
import Derived.StillTactics
import Derived.RegionTactic
set_option linter.unusedVariables false
set_option linter.unusedSimpArgs false
set_option maxRecDepth 100000
set_option linter.defProp false
namespace Go.Sh
open Go.Abs Go.Proofs Go.RowKit
def Fo{w:World}(g:GL jo w){i:Nat}{z:Int}(h:ra[i]?=some z):w.cell? ⟨1,i,none⟩=some (.int .i64 z):=by
 obtain⟨L,⟨f,r,n,c3,e,j,m,u,b,o,⟨k,v,p,q,rfl,a⟩,d,s,l,t⟩,c,_⟩:=g;have:=c (1,.cells f e (0,0)) (by simp);have a:=d i z h;rw[dc]at a;rw[bC this,a]
def Gz{n:Nat}{i:Int}{j:Nat}(h:ix n i=some j):i=(j:Int)/\j<n:=by
 unfold ix at h;split at h
 ·rename_i a;simp only[ar]at h;omega
 ·cases h
def DO{j:Nat}{q:Int×Int}(h:m9[j]?=some q):ra[j*2]?=some q.1/\ra[j*2+1]?=some q.2:=by
 have b:j<21:=by
  rcases aF j 21 with c | c
  ·exact c
  ·rw[gC (by simpa[m9]using c)]at h;cases h
 have key:∀j:Fin 21,∃q,m9[j.1]?=some q/\ra[j.1*2]?=some q.1/\ra[j.1*2+1]?=some q.2:=by
  have:((List.range 21).all λj=>match m9[j]? with | some q=>ra[j*2]?==some q.1&&ra[j*2+1]?==some q.2 | none=>false)=true:=by decide
  intro⟨j,b⟩;have a:=(cq.1 this) j (by simpa using b);simp only;split at a
  ·rename_i q e;simp only[aB,bv]at a;exact⟨q,e,a⟩
  ·cases a
 obtain⟨f,a,d⟩:=key ⟨j,b⟩;simp only at a d;rw[h]at a;cases a;exact d
set_option maxHeartbeats 4000000 in
def rH (n:Nat) (hc:∀(x:Int) (r:Int),dn n x=some r->kL Tryz.prog 135 [.i .i64 x] (.i .i64 r)) (a:Int) (r:Int×Int×Int) (h:fb n a=some r):
  kL Tryz.prog 195 [.i .i64 a] (.tp [.i .i64 r.1,.i .i64 r.2.1,.i .i64 r.2.2]):=by
 intro w C k hx;simp only [VRs,VR] at hx;obtain ⟨_,_,o,rfl,rfl⟩:=hx;have:C=#[.int .i64 a]:=by apply mg;simpa using o
 subst this;clear o;simp only [fb] at h;obtain ⟨e,u,h⟩:=av h;have call:∀b:World,GL jo b->Calls Tryz.prog 135 #[.int .i64 a] b λx w'=>x=.returned (.int .i64 e)/\Below b.heap.size b w':=λb c=>
  (hc a e u b _ c (by simp [VRs,VR])).mono λx w' ⟨y,p,m,B⟩=>by
   simp only [VR] at m;exact ⟨by rw [p,m],B.below⟩
 cases f:(e != 0) with
 | true=>
  rw [f] at h;simp only [aj,ar] at h;subst h;have D:¬e=0:=by simpa using f
  go_enter Tryz.func195,Tryz.ntmps195
  go_wp2_with (go_at_call 135;refine (call _ k).mono ?_)
  rintro x b ⟨rfl,b1⟩
  go_wp2
  go_ret3
  exact ⟨_,rfl,by simp [VR,VRs],Below.fr b1⟩
 | false=>
  rw [f] at h;simp only [af] at h;obtain ⟨j,t,h⟩:=av h;obtain ⟨q,z,h⟩:=av h;simp only [ar] at h;subst h;have g:e=0:=by simpa using f
  subst g
  go_enter Tryz.func195,Tryz.ntmps195
  go_wp2_with (go_at_call 135;refine (call _ k).mono ?_)
  rintro x b ⟨rfl,b1⟩;have c:GL jo b:=k.below b1;obtain ⟨l,v⟩:=Gz t;have d:=DO z;have F:wrap64 (a - 21)=(j:Int):=by rw [<-l,EQ];unfold wrap64;rfl
  have s:0<=wrap64 (a - 21):=by omega
  have A:wrap64 (a - 21)<21:=by omega
  have E:(wrap64 (a - 21)).toNat=j:=by omega
  have k0:b.cell? ⟨1,j*2,none⟩=some (.int .i64 q.1):=Fo c d.1;have k1:b.cell? ⟨1,j*2+1,none⟩=some (.int .i64 q.2):=Fo c d.2;have mixed:Tryz.prog.follows .mixedOrders=true:=by kernel_rfl
  go_wp2_with fail
  go_region
  go_wp2
  go_ret3
  refine ⟨_,rfl,by simp [VR,VRs],Below.fr ?_⟩;exact ((b1.alloc b1.size _).drew)
end Go.Sh
