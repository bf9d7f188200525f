
import Derived.Test.YtadejcglcffgbaaGreatDoorShT
import Derived.Test.YtadejcglcffgbaaGreatDoorProg
import Derived.WalkKit
import Derived.BigCall
import Derived.OwnWalk
import Derived.StillTactics
import Derived.RegionTactic
set_option linter.unusedVariables false
set_option linter.unusedSimpArgs false
set_option maxRecDepth 100000
set_option linter.defProp false
namespace Go.Sh
open Go.Abs Go.Proofs Go.RowKit
def IK{w:World}(g:GL gQ w){i:Nat}{z:Int}(h:sM[i]?=some z):w.cell? ⟨3,i,none⟩=some (.int .i64 z):=by
 obtain⟨L,⟨d,t,u,c3,c,q,p,s,b,o,⟨c4,l,m,r,rfl,a⟩,e,n,j,k⟩,f,_⟩:=g;have:=f (3,.cells d c (0,0)) (by simp);have a:=e i z h;rw[cK]at a;rw[bg this,a]
def IQ{n:Nat}{i:Int}{j:Nat}(h:ix n i=some j):i=(j:Int)/\j<n:=by
 unfold ix at h;split at h
 ·rename_i a;simp only[aq]at h;omega
 ·cases h
def Gj{j:Nat}{q:Int×Int}(h:n8[j]?=some q):sM[j*2]?=some q.1/\sM[j*2+1]?=some q.2:=by
 have b:j<21:=by
  rcases aJ j 21 with c | c
  ·exact c
  ·rw[f7 (by simpa[n8]using c)]at h;cases h
 have key:∀j:Fin 21,∃q,n8[j.1]?=some q/\sM[j.1*2]?=some q.1/\sM[j.1*2+1]?=some q.2:=by
  have:((List.range 21).all λj=>match n8[j]? with | some q=>sM[j*2]?==some q.1&&sM[j*2+1]?==some q.2 | none=>false)=true:=by decide
  intro⟨j,b⟩;have a:=(bS.1 this) j (by simpa using b);simp only;split at a
  ·rename_i q e;simp only[aB,bL]at a;exact⟨q,e,a⟩
  ·cases a
 obtain⟨f,a,d⟩:=key ⟨j,b⟩;simp only at a d;rw[h]at a;cases a;exact d
set_option maxHeartbeats 4000000 in
def tX (n:Nat) (hc:∀(x:Int) (r:Int),dT n x=some r->na Tryz.prog 66 [.i .i64 x] (.i .i64 r)) (a:Int) (r:Int×Int×Int) (h:fH n a=some r):
  na Tryz.prog 171 [.i .i64 a] (.tp [.i .i64 r.1,.i .i64 r.2.1,.i .i64 r.2.2]):=by
 intro w z g hx;simp only [VRs,VR] at hx;obtain ⟨_,_,o,rfl,rfl⟩:=hx;have:z=#[.int .i64 a]:=by apply lq;simpa using o
 subst this;clear o;simp only [fH] at h;obtain ⟨e,D,h⟩:=ax h;have call:∀b:World,GL gQ b->Calls Tryz.prog 66 #[.int .i64 a] b λx w'=>x=.returned (.int .i64 e)/\Below b.heap.size b w':=λb c=>
  (hc a e D b _ c (by simp [VRs,VR])).mono λx w' ⟨y,p,m,s⟩=>by
   simp only [VR] at m;exact ⟨by rw [p,m],s.below⟩
 cases f:(e != 0) with
 | true=>
  rw [f] at h;simp only [aj,aq] at h;subst h;have u:¬e=0:=by simpa using f
  go_enter Tryz.func171,Tryz.ntmps171
  go_wp2_with (go_at_call 66;refine (call _ g).mono ?_)
  rintro x b ⟨rfl,b1⟩
  go_wp2
  go_ret3
  exact ⟨_,rfl,by simp [VR,VRs],Below.fr b1⟩
 | false=>
  rw [f] at h;simp only [af] at h;obtain ⟨j,C,h⟩:=ax h;obtain ⟨q,A,h⟩:=ax h;simp only [aq] at h;subst h;have k:e=0:=by simpa using f
  subst k
  go_enter Tryz.func171,Tryz.ntmps171
  go_wp2_with (go_at_call 66;refine (call _ g).mono ?_)
  rintro x b ⟨rfl,b1⟩;have c:GL gQ b:=g.below b1;obtain ⟨l,v⟩:=IQ C;have d:=Gj A;have F:wrap64 (a - 21)=(j:Int):=by rw [<-l,HF];unfold wrap64;rfl
  have B:0<=wrap64 (a - 21):=by omega
  have t:wrap64 (a - 21)<21:=by omega
  have E:(wrap64 (a - 21)).toNat=j:=by omega
  have k0:b.cell? ⟨3,j*2,none⟩=some (.int .i64 q.1):=IK c d.1;have k1:b.cell? ⟨3,j*2+1,none⟩=some (.int .i64 q.2):=IK c d.2;have mixed:Tryz.prog.follows .mixedOrders=true:=by kernel_rfl
  go_wp2_with fail
  go_region
  go_wp2
  go_ret3
  refine ⟨_,rfl,by simp [VR,VRs],Below.fr ?_⟩;exact ((b1.alloc b1.size _).drew)
end Go.Sh
