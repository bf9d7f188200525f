
/- seasons.Months looks into a package-level table: its walk, by hand.
   (FMONTHS, FCHECK: the seat's numbers of the functions; Tryz its alias; @T@ the number of the struct.)
   Conditions: none. -/
import Derived.Test.YtfiponokimbeeaaGreatDoorShR
import Derived.Test.YtfiponokimbeeaaGreatDoorProg
import Derived.WalkKit
import Derived.BigCall
import Derived.OwnWalk
import Derived.StillTactics
import Derived.RegionTactic
set_option linter.unusedVariables false
set_option linter.unusedSimpArgs false
set_option maxRecDepth 100000
namespace Go.Sh
open Go.Abs Go.Proofs Go.RowKit
theorem Es {w:World} (d:GL f7 w) {i:Nat} {z:Int} (h:qj[i]?=some z):w.cell? ⟨2,i,none⟩=some (.int .i64 z):=by
 obtain ⟨L,⟨e,m,t,s,c,l,n,r,b,o,⟨v,j,p,q,rfl,a⟩,g,u,x,k⟩,f,_⟩:=d;have:=f (2,.cells e c (0,0)) (by simp);have a:=g i z h;rw [cj] at a;rw [be this,a]
theorem E2 {n:Nat} {i:Int} {j:Nat} (h:ix n i=some j):i=(j:Int)/\j<n:=by
 unfold ix at h;split at h
 ·rename_i a;simp only [ak] at h;omega
 ·cases h
theorem CC {j:Nat} {q:Int×Int} (h:mz[j]?=some q):qj[j*2]?=some q.1/\qj[j*2+1]?=some q.2:=by
 have c:j<21:=by
  rcases aF j 21 with b | b
  ·exact b
  ·rw [fX (by simpa [mz] using b)] at h;cases h
 have key:∀j:Fin 21,∃q,mz[j.1]?=some q/\qj[j.1*2]?=some q.1/\qj[j.1*2+1]?=some q.2:=by
  have:((List.range 21).all λj=>match mz[j]? with | some q=>qj[j*2]?==some q.1&&qj[j*2+1]?==some q.2 | none=>false)=true:=by decide
  intro ⟨j,c⟩;have a:=(bG.1 this) j (by simpa using c);simp only;split at a
  ·rename_i q e;simp only [aB,bp] at a;exact ⟨q,e,a⟩
  ·cases a
 obtain ⟨f,a,d⟩:=key ⟨j,c⟩;simp only at a d;rw [h] at a;cases a;exact d
set_option maxHeartbeats 4000000 in
theorem qX (n:Nat) (hc:∀(x:Int) (r:Int),cY n x=some r->jD Tryz.prog 96 [.i .i64 x] (.i .i64 r)) (a:Int) (r:Int×Int×Int) (h:eI n a=some r):
  jD Tryz.prog 182 [.i .i64 a] (.tp [.i .i64 r.1,.i .i64 r.2.1,.i .i64 r.2.2]):=by
 intro w v k hx;simp only [VRs,VR] at hx;obtain ⟨_,_,o,rfl,rfl⟩:=hx;have:v=#[.int .i64 a]:=by apply jK;simpa using o
 subst this;clear o;simp only [eI] at h;obtain ⟨e,z,h⟩:=au h;have call:∀b:World,GL f7 b->Calls Tryz.prog 96 #[.int .i64 a] b λx w'=>x=.returned (.int .i64 e)/\Below b.heap.size b w':=λb c=>
  (hc a e z b _ c (by simp [VRs,VR])).mono λx w' ⟨y,C,m,D⟩=>by
   simp only [VR] at m;exact ⟨by rw [C,m],D.below⟩
 cases f:(e != 0) with
 | true=>
  rw [f] at h;simp only [aj,ak] at h;subst h;have t:¬e=0:=by simpa using f
  go_enter Tryz.func182,Tryz.ntmps182
  go_wp2_with (go_at_call 96;refine (call _ k).mono ?_)
  rintro x b ⟨rfl,b1⟩
  go_wp2
  go_ret3
  exact ⟨_,rfl,by simp [VR,VRs],Below.fr b1⟩
 | false=>
  rw [f] at h;simp only [af] at h;obtain ⟨j,A,h⟩:=au h;obtain ⟨q,u,h⟩:=au h;simp only [ak] at h;subst h;have g:e=0:=by simpa using f
  subst g
  go_enter Tryz.func182,Tryz.ntmps182
  go_wp2_with (go_at_call 96;refine (call _ k).mono ?_)
  rintro x b ⟨rfl,b1⟩;have c:GL f7 b:=k.below b1;obtain ⟨l,p⟩:=E2 A;have d:=CC u;have E:wrap64 (a - 21)=(j:Int):=by rw [<-l,FL];unfold wrap64;rfl
  have s:0<=wrap64 (a - 21):=by omega
  have B:wrap64 (a - 21)<21:=by omega
  have F:(wrap64 (a - 21)).toNat=j:=by omega
  have k0:b.cell? ⟨2,j*2,none⟩=some (.int .i64 q.1):=Es c d.1;have k1:b.cell? ⟨2,j*2+1,none⟩=some (.int .i64 q.2):=Es c d.2;have mixed:Tryz.prog.follows .mixedOrders=true:=by kernel_rfl
  go_wp2_with fail
  go_region
  go_wp2
  go_ret3
  refine ⟨_,rfl,by simp [VR,VRs],Below.fr ?_⟩;exact ((b1.alloc b1.size _).drew)
end Go.Sh
