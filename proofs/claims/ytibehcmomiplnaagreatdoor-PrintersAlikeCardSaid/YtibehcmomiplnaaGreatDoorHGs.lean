
import Derived.Test.YtibehcmomiplnaaGreatDoorShR
import Derived.Test.YtibehcmomiplnaaGreatDoorProg
import Derived.WalkKit
import Derived.BigCall
import Derived.OwnWalk
import Derived.StillTactics
import Derived.RegionTactic
set_option linter.unusedVariables false
set_option linter.unusedSimpArgs false
set_option maxRecDepth 100000
set_option linter.defProp false
namespace Go.Sh
open Go.Abs Go.Proofs Go.RowKit
def Hw{w:World}(e:GL gX w){i:Nat}{z:Int}(h:tw[i]?=some z):w.cell? ⟨1,i,none⟩=some (.int .i64 z):=by
 obtain⟨L,⟨c,q,j,c3,d,u,m,t,b,o,⟨c4,n,r,k,rfl,a⟩,f,l,s,p⟩,g,_⟩:=e;have:=g (1,.cells c d (0,0)) (by simp);have a:=f i z h;rw[cU]at a;rw[bh this,a]
def IG{n:Nat}{i:Int}{j:Nat}(h:ix n i=some j):i=(j:Int)/\j<n:=by
 unfold ix at h;split at h
 ·rename_i a;simp only[ar]at h;omega
 ·cases h
def FZ{j:Nat}{q:Int×Int}(h:oy[j]?=some q):tw[j*2]?=some q.1/\tw[j*2+1]?=some q.2:=by
 have c:j<21:=by
  rcases aN j 21 with b | b
  ·exact b
  ·rw[gh (by simpa[oy]using b)]at h;cases h
 have key:∀j:Fin 21,∃q,oy[j.1]?=some q/\tw[j.1*2]?=some q.1/\tw[j.1*2+1]?=some q.2:=by
  have:((List.range 21).all λj=>match oy[j]? with | some q=>tw[j*2]?==some q.1&&tw[j*2+1]?==some q.2 | none=>false)=true:=by decide
  intro⟨j,c⟩;have a:=(bO.1 this) j (by simpa using c);simp only;split at a
  ·rename_i q e;simp only[aA,bu]at a;exact⟨q,e,a⟩
  ·cases a
 obtain⟨f,a,d⟩:=key ⟨j,c⟩;simp only at a d;rw[h]at a;cases a;exact d
set_option maxHeartbeats 4000000 in
def tN (n:Nat) (hc:∀(x:Int) (r:Int),dV n x=some r->nE Tryz.prog 154 [.i .i64 x] (.i .i64 r)) (a:Int) (r:Int×Int×Int) (h:fN n a=some r):
  nE Tryz.prog 217 [.i .i64 a] (.tp [.i .i64 r.1,.i .i64 r.2.1,.i .i64 r.2.2]):=by
 intro w u k hx;simp only [VRs,VR] at hx;obtain ⟨_,_,m,rfl,rfl⟩:=hx;have:u=#[.int .i64 a]:=by apply lU;simpa using m
 subst this;clear m;simp only [fN] at h;obtain ⟨e,p,h⟩:=ax h;have call:∀b:World,GL gX b->Calls Tryz.prog 154 #[.int .i64 a] b λx w'=>x=.returned (.int .i64 e)/\Below b.heap.size b w':=λb c=>
  (hc a e p b _ c (by simp [VRs,VR])).mono λx w' ⟨y,z,o,A⟩=>by
   simp only [VR] at o;exact ⟨by rw [z,o],A.below⟩
 cases f:(e != 0) with
 | true=>
  rw [f] at h;simp only [aj,ar] at h;subst h;have D:¬e=0:=by simpa using f
  go_enter Tryz.func217,Tryz.ntmps217
  go_wp2_with (go_at_call 154;refine (call _ k).mono ?_)
  rintro x b ⟨rfl,b1⟩
  go_wp2
  go_ret3
  exact ⟨_,rfl,by simp [VR,VRs],Below.fr b1⟩
 | false=>
  rw [f] at h;simp only [ah] at h;obtain ⟨j,B,h⟩:=ax h;obtain ⟨q,t,h⟩:=ax h;simp only [ar] at h;subst h;have g:e=0:=by simpa using f
  subst g
  go_enter Tryz.func217,Tryz.ntmps217
  go_wp2_with (go_at_call 154;refine (call _ k).mono ?_)
  rintro x b ⟨rfl,b1⟩;have c:GL gX b:=k.below b1;obtain ⟨l,C⟩:=IG B;have d:=FZ t;have E:wrap64 (a - 21)=(j:Int):=by rw [<-l,HD];unfold wrap64;rfl
  have s:0<=wrap64 (a - 21):=by omega
  have v:wrap64 (a - 21)<21:=by omega
  have F:(wrap64 (a - 21)).toNat=j:=by omega
  have k0:b.cell? ⟨1,j*2,none⟩=some (.int .i64 q.1):=Hw c d.1;have k1:b.cell? ⟨1,j*2+1,none⟩=some (.int .i64 q.2):=Hw c d.2;have mixed:Tryz.prog.follows .mixedOrders=true:=by kernel_rfl
  go_wp2_with fail
  go_region
  go_wp2
  go_ret3
  refine ⟨_,rfl,by simp [VR,VRs],Below.fr ?_⟩;exact ((b1.alloc b1.size _).drew)
end Go.Sh
