
/- seasons.Months looks into a package-level table: its walk, by hand.
   (FMONTHS, FCHECK: the seat's numbers of the functions; Tryz its alias; @T@ the number of the struct.)
   Conditions: none. -/
import Derived.Test.YtaogbalpingjhaaGreatDoorShT
import Derived.Test.YtaogbalpingjhaaGreatDoorProg
import Derived.WalkKit
import Derived.BigCall
import Derived.OwnWalk
import Derived.StillTactics
import Derived.RegionTactic
set_option linter.unusedVariables false
set_option linter.unusedSimpArgs false
set_option maxRecDepth 100000
namespace Go.Sh
open Go.Abs Go.Proofs Go.RowKit
theorem yp {w:World} (e:GL dH w) {i:Nat} {z:Int} (h:mG[i]?=some z):w.cell? ⟨4,i,none⟩=some (.int .i64 z):=by
 obtain ⟨L,⟨g,p,s,m,c,j,t,r,b,o,⟨c4,q,v,l,rfl,a⟩,f,n,u,k⟩,d,_⟩:=e;have:=d (4,.cells g c (0,0)) (by simp);have a:=f i z h;rw [bM] at a;rw [aO this,a]
theorem zb {n:Nat} {i:Int} {j:Nat} (h:ix n i=some j):i=(j:Int)/\j<n:=by
 unfold ix at h;split at h
 ·rename_i a;simp only [ae] at h;omega
 ·cases h
theorem wJ {j:Nat} {q:Int×Int} (h:jL[j]?=some q):mG[j*2]?=some q.1/\mG[j*2+1]?=some q.2:=by
 have c:j<21:=by
  rcases aA j 21 with b | b
  ·exact b
  ·rw [dx (by simpa [jL] using b)] at h;cases h
 have key:∀j:Fin 21,∃q,jL[j.1]?=some q/\mG[j.1*2]?=some q.1/\mG[j.1*2+1]?=some q.2:=by
  have:((List.range 21).all λj=>match jL[j]? with | some q=>mG[j*2]?==some q.1&&mG[j*2+1]?==some q.2 | none=>false)=true:=by decide
  intro ⟨j,c⟩;have a:=(bz.1 this) j (by simpa using c);simp only;split at a
  ·rename_i q e;simp only [av,bu] at a;exact ⟨q,e,a⟩
  ·cases a
 obtain ⟨f,a,d⟩:=key ⟨j,c⟩;simp only at a d;rw [h] at a;cases a;exact d
set_option maxHeartbeats 4000000 in
theorem mO (n:Nat) (hc:∀(x:Int) (r:Int),bN n x=some r->f7 Tryz.prog 128 [.i .i64 x] (.i .i64 r)) (a:Int) (r:Int×Int×Int) (h:cQ n a=some r):
  f7 Tryz.prog 180 [.i .i64 a] (.tp [.i .i64 r.1,.i .i64 r.2.1,.i .i64 r.2.2]):=by
 intro w B l s;simp only [VRs,VR] at s;obtain ⟨_,_,o,rfl,rfl⟩:=s;have:B=#[.int .i64 a]:=by apply gz;simpa using o
 subst this;clear o;simp only [cQ] at h;obtain ⟨e,z,h⟩:=ah h;have call:∀b:World,GL dH b->Calls Tryz.prog 128 #[.int .i64 a] b λx w'=>x=.returned (.int .i64 e)/\Below b.heap.size b w':=λb c=>
  (hc a e z b _ c (by simp [VRs,VR])).mono λx w' ⟨y,D,p,u⟩=>by
   simp only [VR] at p;exact ⟨by rw [D,p],u.below⟩
 cases g:(e != 0) with
 | true=>
  rw [g] at h;simp only [ar,ae] at h;subst h;have t:¬e=0:=by simpa using g
  go_enter Tryz.func180,Tryz.ntmps180
  go_wp2_with (go_at_call 128;refine (call _ l).mono ?_)
  rintro x b ⟨rfl,f⟩
  go_wp2
  go_ret3
  exact ⟨_,rfl,by simp [VR,VRs],Below.fr f⟩
 | false=>
  rw [g] at h;simp only [af] at h;obtain ⟨j,F,h⟩:=ah h;obtain ⟨q,A,h⟩:=ah h;simp only [ae] at h;subst h;have m:e=0:=by simpa using g
  subst m
  go_enter Tryz.func180,Tryz.ntmps180
  go_wp2_with (go_at_call 128;refine (call _ l).mono ?_)
  rintro x b ⟨rfl,f⟩;have c:GL dH b:=l.below f;obtain ⟨k,v⟩:=zb F;have d:=wJ A;have G:wrap64 (a - 21)=(j:Int):=by rw [<-k,zk];unfold wrap64;rfl
  have E:0<=wrap64 (a - 21):=by omega
  have C:wrap64 (a - 21)<21:=by omega
  have H:(wrap64 (a - 21)).toNat=j:=by omega
  have k0:b.cell? ⟨4,j*2,none⟩=some (.int .i64 q.1):=yp c d.1;have k1:b.cell? ⟨4,j*2+1,none⟩=some (.int .i64 q.2):=yp c d.2;have mixed:Tryz.prog.follows .mixedOrders=true:=by kernel_rfl
  go_wp2_with fail
  go_region
  go_wp2
  go_ret3
  refine ⟨_,rfl,by simp [VR,VRs],Below.fr ?_⟩;exact ((f.alloc f.size _).drew)
end Go.Sh
