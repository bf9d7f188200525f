
import Derived.Test.YtjkmipianfkncaaGreatDoorShK
import Derived.Test.YtjkmipianfkncaaGreatDoorProg
import Derived.WalkKit
import Derived.BigCall
import Derived.OwnWalk
import Derived.StillTactics
import Derived.RegionTactic
set_option linter.unusedVariables false
set_option linter.unusedSimpArgs false
set_option maxRecDepth 100000
set_option linter.defProp false
namespace Go.Sh
open Go.Abs Go.Proofs Go.RowKit
def HH{w:World}(c:GL jG w){i:Nat}{z:Int}(h:rX[i]?=some z):w.cell? ⟨1,i,none⟩=some (.int .i64 z):=by
 obtain⟨L,⟨g,n,t,c3,d,k,u,p,b,o,⟨c4,j,m,q,rfl,a⟩,f,r,s,l⟩,e,_⟩:=c;have:=e (1,.cells g d (0,0)) (by simp);have a:=f i z h;rw[cU]at a;rw[bB this,a]
def Hu{n:Nat}{i:Int}{j:Nat}(h:ix n i=some j):i=(j:Int)/\j<n:=by
 unfold ix at h;split at h
 ·rename_i a;simp only[ar]at h;omega
 ·cases h
def FI{j:Nat}{q:Int×Int}(h:nD[j]?=some q):rX[j*2]?=some q.1/\rX[j*2+1]?=some q.2:=by
 have c:j<21:=by
  rcases aF j 21 with b | b
  ·exact b
  ·rw[gU (by simpa[nD]using b)]at h;cases h
 have key:∀j:Fin 21,∃q,nD[j.1]?=some q/\rX[j.1*2]?=some q.1/\rX[j.1*2+1]?=some q.2:=by
  have:((List.range 21).all λj=>match nD[j]? with | some q=>rX[j*2]?==some q.1&&rX[j*2+1]?==some q.2 | none=>false)=true:=by decide
  intro⟨j,c⟩;have a:=(cE.1 this) j (by simpa using c);simp only;split at a
  ·rename_i q e;simp only[aC,bu]at a;exact⟨q,e,a⟩
  ·cases a
 obtain⟨f,a,d⟩:=key ⟨j,c⟩;simp only at a d;rw[h]at a;cases a;exact d
set_option maxHeartbeats 4000000 in
def sB (n:Nat) (hc:∀(x:Int) (r:Int),dH n x=some r->lj Tryz.prog 135 [.i .i64 x] (.i .i64 r)) (a:Int) (r:Int×Int×Int) (h:fD n a=some r):
  lj Tryz.prog 195 [.i .i64 a] (.tp [.i .i64 r.1,.i .i64 r.2.1,.i .i64 r.2.2]):=by
 intro w u k hx;simp only [VRs,VR] at hx;obtain ⟨_,_,o,rfl,rfl⟩:=hx;have:u=#[.int .i64 a]:=by apply mS;simpa using o
 subst this;clear o;simp only [fD] at h;obtain ⟨e,s,h⟩:=av h;have call:∀b:World,GL jG b->Calls Tryz.prog 135 #[.int .i64 a] b λx w'=>x=.returned (.int .i64 e)/\Below b.heap.size b w':=λb c=>
  (hc a e s b _ c (by simp [VRs,VR])).mono λx w' ⟨y,C,m,D⟩=>by
   simp only [VR] at m;exact ⟨by rw [C,m],D.below⟩
 cases f:(e != 0) with
 | true=>
  rw [f] at h;simp only [aj,ar] at h;subst h;have p:¬e=0:=by simpa using f
  go_enter Tryz.func195,Tryz.ntmps195
  go_wp2_with (go_at_call 135;refine (call _ k).mono ?_)
  rintro x b ⟨rfl,b1⟩
  go_wp2
  go_ret3
  exact ⟨_,rfl,by simp [VR,VRs],Below.fr b1⟩
 | false=>
  rw [f] at h;simp only [af] at h;obtain ⟨j,t,h⟩:=av h;obtain ⟨q,v,h⟩:=av h;simp only [ar] at h;subst h;have l:e=0:=by simpa using f
  subst l
  go_enter Tryz.func195,Tryz.ntmps195
  go_wp2_with (go_at_call 135;refine (call _ k).mono ?_)
  rintro x b ⟨rfl,b1⟩;have c:GL jG b:=k.below b1;obtain ⟨g,z⟩:=Hu t;have d:=FI v;have E:wrap64 (a - 21)=(j:Int):=by rw [<-g,GN];unfold wrap64;rfl
  have A:0<=wrap64 (a - 21):=by omega
  have B:wrap64 (a - 21)<21:=by omega
  have F:(wrap64 (a - 21)).toNat=j:=by omega
  have k0:b.cell? ⟨1,j*2,none⟩=some (.int .i64 q.1):=HH c d.1;have k1:b.cell? ⟨1,j*2+1,none⟩=some (.int .i64 q.2):=HH c d.2;have mixed:Tryz.prog.follows .mixedOrders=true:=by kernel_rfl
  go_wp2_with fail
  go_region
  go_wp2
  go_ret3
  refine ⟨_,rfl,by simp [VR,VRs],Below.fr ?_⟩;exact ((b1.alloc b1.size _).drew)
end Go.Sh
