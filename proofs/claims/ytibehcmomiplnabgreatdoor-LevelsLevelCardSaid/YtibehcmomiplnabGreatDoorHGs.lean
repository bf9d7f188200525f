
import Derived.Test.YtibehcmomiplnabGreatDoorShV
import Derived.Test.YtibehcmomiplnabGreatDoorProg
import Derived.WalkKit
import Derived.BigCall
import Derived.OwnWalk
import Derived.StillTactics
import Derived.RegionTactic
set_option linter.unusedSimpArgs false
set_option linter.unusedVariables false
set_option linter.defProp false
set_option maxRecDepth 100000
namespace Go.Sh
open Go.Abs Go.Proofs Go.RowKit
def JL{w:World}(c:GL iI w){i:Nat}{z:Int}(h:vb[i]?=some z):w.cell? ⟨3,i,none⟩=some (.int .i64 z):=by
 obtain⟨L,⟨g,q,n,c3,e,p,k,s,b,o,⟨c4,u,j,m,rfl,a⟩,d,r,t,l⟩,f,_⟩:=c;have:=f (3,.cells g e (0,0)) (by simp);have a:=d i z h;rw[dw]at a;rw[bB this,a]
def LR{n:Nat}{i:Int}{j:Nat}(h:ix n i=some j):i=(j:Int)/\j<n:=by
 unfold ix at h;split at h
 ·rename_i a;simp only[aw]at h;omega
 ·cases h
def H8{j:Nat}{q:Int×Int}(h:pR[j]?=some q):vb[j*2]?=some q.1/\vb[j*2+1]?=some q.2:=by
 have c:j<21:=by
  rcases aN j 21 with b | b
  ·exact b
  ·rw[gS (by simpa[pR]using b)]at h;cases h
 have key:∀j:Fin 21,∃q,pR[j.1]?=some q/\vb[j.1*2]?=some q.1/\vb[j.1*2+1]?=some q.2:=by
  have:((List.range 21).all λj=>match pR[j]? with | some q=>vb[j*2]?==some q.1&&vb[j*2+1]?==some q.2 | none=>false)=true:=by decide
  intro⟨j,c⟩;have a:=(cb.1 this) j (by simpa using c);simp only;split at a
  ·rename_i q e;simp only[aD,bA]at a;exact⟨q,e,a⟩
  ·cases a
 obtain⟨f,a,d⟩:=key ⟨j,c⟩;simp only at a d;rw[h]at a;cases a;exact d
set_option maxHeartbeats 4000000 in
def vT (n:Nat) (hc:∀(x:Int) (r:Int),eF n x=some r->oP Tryz.prog 44 [.i .i64 x] (.i .i64 r)) (a:Int) (r:Int×Int×Int) (h:gv n a=some r):
  oP Tryz.prog 224 [.i .i64 a] (.tp [.i .i64 r.1,.i .i64 r.2.1,.i .i64 r.2.2]):=by
 intro w t l hx;simp only [VRs,VR] at hx;obtain ⟨_,_,o,rfl,rfl⟩:=hx;have:t=#[.int .i64 a]:=by apply mO;simpa using o
 subst this;clear o;simp only [gv] at h;obtain ⟨e,A,h⟩:=ax h;have call:∀b:World,GL iI b->Calls Tryz.prog 44 #[.int .i64 a] b λx w'=>x=.returned (.int .i64 e)/\Below b.heap.size b w':=λb c=>
  (hc a e A b _ c (by simp [VRs,VR])).mono λx w' ⟨y,B,m,z⟩=>by
   simp only [VR] at m;exact ⟨by rw [B,m],z.below⟩
 cases f:(e != 0) with
 | true=>
  rw [f] at h;simp only [ah,aw] at h;subst h;have p:¬e=0:=by simpa using f
  go_enter Tryz.func224,Tryz.ntmps224
  go_wp2_with (go_at_call 44;refine (call _ l).mono ?_)
  rintro x b ⟨rfl,b1⟩
  go_wp2
  go_ret3
  exact ⟨_,rfl,by simp [VR,VRs],Below.fr b1⟩
 | false=>
  rw [f] at h;simp only [af] at h;obtain ⟨j,D,h⟩:=ax h;obtain ⟨q,s,h⟩:=ax h;simp only [aw] at h;subst h;have k:e=0:=by simpa using f
  subst k
  go_enter Tryz.func224,Tryz.ntmps224
  go_wp2_with (go_at_call 44;refine (call _ l).mono ?_)
  rintro x b ⟨rfl,b1⟩;have c:GL iI b:=l.below b1;obtain ⟨g,u⟩:=LR D;have d:=H8 s;have F:wrap64 (a - 21)=(j:Int):=by rw [<-g,LE];unfold wrap64;rfl
  have v:0<=wrap64 (a - 21):=by omega
  have C:wrap64 (a - 21)<21:=by omega
  have E:(wrap64 (a - 21)).toNat=j:=by omega
  have k0:b.cell? ⟨3,j*2,none⟩=some (.int .i64 q.1):=JL c d.1;have k1:b.cell? ⟨3,j*2+1,none⟩=some (.int .i64 q.2):=JL c d.2;have mixed:Tryz.prog.follows .mixedOrders=true:=by kernel_rfl
  go_wp2_with fail
  go_region
  go_wp2
  go_ret3
  refine ⟨_,rfl,by simp [VR,VRs],Below.fr ?_⟩;exact ((b1.alloc b1.size _).drew)
end Go.Sh
