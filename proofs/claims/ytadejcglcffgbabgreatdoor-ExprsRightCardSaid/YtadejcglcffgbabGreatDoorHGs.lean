
import Derived.Test.YtadejcglcffgbabGreatDoorShX
import Derived.Test.YtadejcglcffgbabGreatDoorProg
import Derived.WalkKit
import Derived.BigCall
import Derived.OwnWalk
import Derived.StillTactics
import Derived.RegionTactic
set_option linter.unusedVariables false
set_option linter.unusedSimpArgs false
set_option maxRecDepth 100000
set_option linter.defProp false
namespace Go.Sh
open Go.Abs Go.Proofs Go.RowKit
def Cc{w:World}(c:GL ii w){i:Nat}{z:Int}(h:og[i]?=some z):w.cell? ⟨0,i,none⟩=some (.int .i64 z):=by
 obtain⟨L,⟨d,r,u,c3,g,p,l,m,b,o,⟨c4,k,t,n,rfl,a⟩,e,s,q,j⟩,f,_⟩:=c;have:=f (0,.cells d g (0,0)) (by simp);have a:=e i z h;rw[bV]at a;rw[bB this,a]
def BQ{n:Nat}{i:Int}{j:Nat}(h:ix n i=some j):i=(j:Int)/\j<n:=by
 unfold ix at h;split at h
 ·rename_i a;simp only[aq]at h;omega
 ·cases h
def zX{j:Nat}{q:Int×Int}(h:kQ[j]?=some q):og[j*2]?=some q.1/\og[j*2+1]?=some q.2:=by
 have c:j<21:=by
  rcases aI j 21 with b | b
  ·exact b
  ·rw[dX (by simpa[kQ]using b)]at h;cases h
 have key:∀j:Fin 21,∃q,kQ[j.1]?=some q/\og[j.1*2]?=some q.1/\og[j.1*2+1]?=some q.2:=by
  have:((List.range 21).all λj=>match kQ[j]? with | some q=>og[j*2]?==some q.1&&og[j*2+1]?==some q.2 | none=>false)=true:=by decide
  intro⟨j,c⟩;have a:=(ch.1 this) j (by simpa using c);simp only;split at a
  ·rename_i q e;simp only[aC,bI]at a;exact⟨q,e,a⟩
  ·cases a
 obtain⟨f,a,d⟩:=key ⟨j,c⟩;simp only at a d;rw[h]at a;cases a;exact d
set_option maxHeartbeats 4000000 in
def oS (n:Nat) (hc:∀(x:Int) (r:Int),cO n x=some r->kV Tryz.prog 91 [.i .i64 x] (.i .i64 r)) (a:Int) (r:Int×Int×Int) (h:dO n a=some r):
  kV Tryz.prog 129 [.i .i64 a] (.tp [.i .i64 r.1,.i .i64 r.2.1,.i .i64 r.2.2]):=by
 intro w z l hx;simp only [VRs,VR] at hx;obtain ⟨_,_,o,rfl,rfl⟩:=hx;have:z=#[.int .i64 a]:=by apply kH;simpa using o
 subst this;clear o;simp only [dO] at h;obtain ⟨e,E,h⟩:=av h;have call:∀b:World,GL ii b->Calls Tryz.prog 91 #[.int .i64 a] b λx w'=>x=.returned (.int .i64 e)/\Below b.heap.size b w':=λb c=>
  (hc a e E b _ c (by simp [VRs,VR])).mono λx w' ⟨y,D,p,t⟩=>by
   simp only [VR] at p;exact ⟨by rw [D,p],t.below⟩
 cases g:(e != 0) with
 | true=>
  rw [g] at h;simp only [am,aq] at h;subst h;have s:¬e=0:=by simpa using g
  go_enter Tryz.func129,Tryz.ntmps129
  go_wp2_with (go_at_call 91;refine (call _ l).mono ?_)
  rintro x b ⟨rfl,d⟩
  go_wp2
  go_ret3
  exact ⟨_,rfl,by simp [VR,VRs],Below.fr d⟩
 | false=>
  rw [g] at h;simp only [af] at h;obtain ⟨j,C,h⟩:=av h;obtain ⟨q,u,h⟩:=av h;simp only [aq] at h;subst h;have m:e=0:=by simpa using g
  subst m
  go_enter Tryz.func129,Tryz.ntmps129
  go_wp2_with (go_at_call 91;refine (call _ l).mono ?_)
  rintro x b ⟨rfl,d⟩;have c:GL ii b:=l.below d;obtain ⟨k,B⟩:=BQ C;have f:=zX u;have F:wrap64 (a - 21)=(j:Int):=by rw [<-k,B5];unfold wrap64;rfl
  have v:0<=wrap64 (a - 21):=by omega
  have A:wrap64 (a - 21)<21:=by omega
  have G:(wrap64 (a - 21)).toNat=j:=by omega
  have k0:b.cell? ⟨0,j*2,none⟩=some (.int .i64 q.1):=Cc c f.1;have k1:b.cell? ⟨0,j*2+1,none⟩=some (.int .i64 q.2):=Cc c f.2;have mixed:Tryz.prog.follows .mixedOrders=true:=by kernel_rfl
  go_wp2_with fail
  go_region
  go_wp2
  go_ret3
  refine ⟨_,rfl,by simp [VR,VRs],Below.fr ?_⟩;exact ((d.alloc d.size _).drew)
end Go.Sh
