
/- seasons.Months looks into a package-level table: its walk, by hand.
   (FMONTHS, FCHECK: the seat's numbers of the functions; Tryz its alias; @T@ the number of the struct.)
   Conditions: none. -/
import Derived.Test.YthemneooekobkabGreatDoorShQ
import Derived.Test.YthemneooekobkabGreatDoorProg
import Derived.WalkKit
import Derived.BigCall
import Derived.OwnWalk
import Derived.StillTactics
import Derived.RegionTactic
set_option linter.unusedVariables false
set_option linter.unusedSimpArgs false
set_option maxRecDepth 100000
namespace Go.Sh
open Go.Abs Go.Proofs Go.RowKit
theorem GW {w:World} (f:GL ip w) {i:Nat} {z:Int} (h:sK[i]?=some z):w.cell? ⟨3,i,none⟩=some (.int .i64 z):=by
 obtain ⟨L,⟨c,p,j,c3,d,n,m,k,b,o,⟨u,r,l,t,rfl,a⟩,g,v,q,s⟩,e,_⟩:=f;have:=e (3,.cells c d (0,0)) (by simp);have a:=g i z h;rw [de] at a;rw [bu this,a]
theorem G4 {n:Nat} {i:Int} {j:Nat} (h:ix n i=some j):i=(j:Int)/\j<n:=by
 unfold ix at h;split at h
 ·rename_i a;simp only [au] at h;omega
 ·cases h
theorem ET {j:Nat} {q:Int×Int} (h:nL[j]?=some q):sK[j*2]?=some q.1/\sK[j*2+1]?=some q.2:=by
 have b:j<21:=by
  rcases aG j 21 with c | c
  ·exact c
  ·rw [ii (by simpa [nL] using c)] at h;cases h
 have key:∀j:Fin 21,∃q,nL[j.1]?=some q/\sK[j.1*2]?=some q.1/\sK[j.1*2+1]?=some q.2:=by
  have:((List.range 21).all λj=>match nL[j]? with | some q=>sK[j*2]?==some q.1&&sK[j*2+1]?==some q.2 | none=>false)=true:=by decide
  intro ⟨j,b⟩;have a:=(cN.1 this) j (by simpa using b);simp only;split at a
  ·rename_i q e;simp only [aA,bG] at a;exact ⟨q,e,a⟩
  ·cases a
 obtain ⟨f,a,d⟩:=key ⟨j,b⟩;simp only at a d;rw [h] at a;cases a;exact d
set_option maxHeartbeats 4000000 in
theorem tA (n:Nat) (hc:∀(x:Int) (r:Int),dK n x=some r->kY Tryz.prog 96 [.i .i64 x] (.i .i64 r)) (a:Int) (r:Int×Int×Int) (h:fE n a=some r):
  kY Tryz.prog 266 [.i .i64 a] (.tp [.i .i64 r.1,.i .i64 r.2.1,.i .i64 r.2.2]):=by
 intro w C k hx;simp only [VRs,VR] at hx;obtain ⟨_,_,m,rfl,rfl⟩:=hx;have:C=#[.int .i64 a]:=by apply lG;simpa using m
 subst this;clear m;simp only [fE] at h;obtain ⟨e,p,h⟩:=av h;have call:∀b:World,GL ip b->Calls Tryz.prog 96 #[.int .i64 a] b λx w'=>x=.returned (.int .i64 e)/\Below b.heap.size b w':=λb c=>
  (hc a e p b _ c (by simp [VRs,VR])).mono λx w' ⟨y,s,o,z⟩=>by
   simp only [VR] at o;exact ⟨by rw [s,o],z.below⟩
 cases f:(e != 0) with
 | true=>
  rw [f] at h;simp only [ah,au] at h;subst h;have t:¬e=0:=by simpa using f
  go_enter Tryz.func266,Tryz.ntmps266
  go_wp2_with (go_at_call 96;refine (call _ k).mono ?_)
  rintro x b ⟨rfl,b1⟩
  go_wp2
  go_ret3
  exact ⟨_,rfl,by simp [VR,VRs],Below.fr b1⟩
 | false=>
  rw [f] at h;simp only [af] at h;obtain ⟨j,B,h⟩:=av h;obtain ⟨q,D,h⟩:=av h;simp only [au] at h;subst h;have g:e=0:=by simpa using f
  subst g
  go_enter Tryz.func266,Tryz.ntmps266
  go_wp2_with (go_at_call 96;refine (call _ k).mono ?_)
  rintro x b ⟨rfl,b1⟩;have c:GL ip b:=k.below b1;obtain ⟨l,v⟩:=G4 B;have d:=ET D;have E:wrap64 (a - 21)=(j:Int):=by rw [<-l,GE];unfold wrap64;rfl
  have u:0<=wrap64 (a - 21):=by omega
  have A:wrap64 (a - 21)<21:=by omega
  have F:(wrap64 (a - 21)).toNat=j:=by omega
  have k0:b.cell? ⟨3,j*2,none⟩=some (.int .i64 q.1):=GW c d.1;have k1:b.cell? ⟨3,j*2+1,none⟩=some (.int .i64 q.2):=GW c d.2;have mixed:Tryz.prog.follows .mixedOrders=true:=by kernel_rfl
  go_wp2_with fail
  go_region
  go_wp2
  go_ret3
  refine ⟨_,rfl,by simp [VR,VRs],Below.fr ?_⟩;exact ((b1.alloc b1.size _).drew)
end Go.Sh
