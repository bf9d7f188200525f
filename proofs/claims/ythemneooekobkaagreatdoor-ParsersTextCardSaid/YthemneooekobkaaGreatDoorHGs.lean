
/- seasons.Months looks into a package-level table: its walk, by hand.
   (FMONTHS, FCHECK: the seat's numbers of the functions; Tryz its alias; @T@ the number of the struct.)
   Conditions: none. -/
import Derived.Test.YthemneooekobkaaGreatDoorShP
import Derived.Test.YthemneooekobkaaGreatDoorProg
import Derived.WalkKit
import Derived.BigCall
import Derived.OwnWalk
import Derived.StillTactics
import Derived.RegionTactic
set_option linter.unusedVariables false
set_option linter.unusedSimpArgs false
set_option maxRecDepth 100000
namespace Go.Sh
open Go.Abs Go.Proofs Go.RowKit
theorem GZ {w:World} (f:GL jI w) {i:Nat} {z:Int} (h:sY[i]?=some z):w.cell? ⟨5,i,none⟩=some (.int .i64 z):=by
 obtain ⟨L,⟨g,q,n,m,d,r,v,u,b,o,⟨c4,l,p,s,rfl,a⟩,c,k,j,t⟩,e,_⟩:=f;have:=e (5,.cells g d (0,0)) (by simp);have a:=c i z h;rw [cX] at a;rw [bA this,a]
theorem Ij {n:Nat} {i:Int} {j:Nat} (h:ix n i=some j):i=(j:Int)/\j<n:=by
 unfold ix at h;split at h
 ·rename_i a;simp only [aw] at h;omega
 ·cases h
theorem FI {j:Nat} {q:Int×Int} (h:nE[j]?=some q):sY[j*2]?=some q.1/\sY[j*2+1]?=some q.2:=by
 have b:j<21:=by
  rcases aI j 21 with c | c
  ·exact c
  ·rw [fV (by simpa [nE] using c)] at h;cases h
 have key:∀j:Fin 21,∃q,nE[j.1]?=some q/\sY[j.1*2]?=some q.1/\sY[j.1*2+1]?=some q.2:=by
  have:((List.range 21).all λj=>match nE[j]? with | some q=>sY[j*2]?==some q.1&&sY[j*2+1]?==some q.2 | none=>false)=true:=by decide
  intro ⟨j,b⟩;have a:=(bW.1 this) j (by simpa using b);simp only;split at a
  ·rename_i q e;simp only [aD,bp] at a;exact ⟨q,e,a⟩
  ·cases a
 obtain ⟨f,a,d⟩:=key ⟨j,b⟩;simp only at a d;rw [h] at a;cases a;exact d
set_option maxHeartbeats 4000000 in
theorem tL (n:Nat) (hc:∀(x:Int) (r:Int),dN n x=some r->nZ Tryz.prog 100 [.i .i64 x] (.i .i64 r)) (a:Int) (r:Int×Int×Int) (h:fC n a=some r):
  nZ Tryz.prog 236 [.i .i64 a] (.tp [.i .i64 r.1,.i .i64 r.2.1,.i .i64 r.2.2]):=by
 intro w C l hx;simp only [VRs,VR] at hx;obtain ⟨_,_,o,rfl,rfl⟩:=hx;have:C=#[.int .i64 a]:=by apply m6;simpa using o
 subst this;clear o;simp only [fC] at h;obtain ⟨e,p,h⟩:=ay h;have call:∀b:World,GL jI b->Calls Tryz.prog 100 #[.int .i64 a] b λx w'=>x=.returned (.int .i64 e)/\Below b.heap.size b w':=λb c=>
  (hc a e p b _ c (by simp [VRs,VR])).mono λx w' ⟨y,v,m,A⟩=>by
   simp only [VR] at m;exact ⟨by rw [v,m],A.below⟩
 cases f:(e != 0) with
 | true=>
  rw [f] at h;simp only [ah,aw] at h;subst h;have s:¬e=0:=by simpa using f
  go_enter Tryz.func236,Tryz.ntmps236
  go_wp2_with (go_at_call 100;refine (call _ l).mono ?_)
  rintro x b ⟨rfl,b1⟩
  go_wp2
  go_ret3
  exact ⟨_,rfl,by simp [VR,VRs],Below.fr b1⟩
 | false=>
  rw [f] at h;simp only [af] at h;obtain ⟨j,B,h⟩:=ay h;obtain ⟨q,u,h⟩:=ay h;simp only [aw] at h;subst h;have k:e=0:=by simpa using f
  subst k
  go_enter Tryz.func236,Tryz.ntmps236
  go_wp2_with (go_at_call 100;refine (call _ l).mono ?_)
  rintro x b ⟨rfl,b1⟩;have c:GL jI b:=l.below b1;obtain ⟨g,t⟩:=Ij B;have d:=FI u;have E:wrap64 (a - 21)=(j:Int):=by rw [<-g,Is];unfold wrap64;rfl
  have D:0<=wrap64 (a - 21):=by omega
  have z:wrap64 (a - 21)<21:=by omega
  have F:(wrap64 (a - 21)).toNat=j:=by omega
  have k0:b.cell? ⟨5,j*2,none⟩=some (.int .i64 q.1):=GZ c d.1;have k1:b.cell? ⟨5,j*2+1,none⟩=some (.int .i64 q.2):=GZ c d.2;have mixed:Tryz.prog.follows .mixedOrders=true:=by kernel_rfl
  go_wp2_with fail
  go_region
  go_wp2
  go_ret3
  refine ⟨_,rfl,by simp [VR,VRs],Below.fr ?_⟩;exact ((b1.alloc b1.size _).drew)
end Go.Sh
