
/- seasons.Months looks into a package-level table: its walk, by hand.
   (FMONTHS, FCHECK: the seat's numbers of the functions; Tryz its alias; @T@ the number of the struct.)
   Conditions: none. -/
import Derived.Test.YtfiponokimbeeaaGreatDoorShR
import Derived.Test.YtfiponokimbeeaaGreatDoorProg
import Derived.WalkKit
import Derived.BigCall
import Derived.OwnWalk
import Derived.StillTactics
import Derived.RegionTactic
set_option linter.unusedVariables false
set_option linter.unusedSimpArgs false
set_option maxRecDepth 100000
namespace Go.Sh
open Go.Abs Go.Proofs Go.RowKit
theorem EZ {w:World} (g:GL gf w) {i:Nat} {z:Int} (h:rL[i]?=some z):w.cell? ⟨2,i,none⟩=some (.int .i64 z):=by
 obtain ⟨L,⟨e,r,v,x,d,l,q,n,b,o,⟨m,u,s,t,rfl,a⟩,f,p,j,k⟩,c,_⟩:=g;have:=c (2,.cells e d (0,0)) (by simp);have a:=f i z h;rw [cP] at a;rw [bf this,a]
theorem Fh {n:Nat} {i:Int} {j:Nat} (h:ix n i=some j):i=(j:Int)/\j<n:=by
 unfold ix at h;split at h
 ·rename_i a;simp only [ak] at h;omega
 ·cases h
theorem D7 {j:Nat} {q:Int×Int} (h:ng[j]?=some q):rL[j*2]?=some q.1/\rL[j*2+1]?=some q.2:=by
 have c:j<21:=by
  rcases aF j 21 with b | b
  ·exact b
  ·rw [fW (by simpa [ng] using b)] at h;cases h
 have key:∀j:Fin 21,∃q,ng[j.1]?=some q/\rL[j.1*2]?=some q.1/\rL[j.1*2+1]?=some q.2:=by
  have:((List.range 21).all λj=>match ng[j]? with | some q=>rL[j*2]?==some q.1&&rL[j*2+1]?==some q.2 | none=>false)=true:=by decide
  intro ⟨j,c⟩;have a:=(co.1 this) j (by simpa using c);simp only;split at a
  ·rename_i q e;simp only [az,bQ] at a;exact ⟨q,e,a⟩
  ·cases a
 obtain ⟨f,a,d⟩:=key ⟨j,c⟩;simp only at a d;rw [h] at a;cases a;exact d
set_option maxHeartbeats 4000000 in
theorem sj (n:Nat) (hc:∀(x:Int) (r:Int),dp n x=some r->jN Tryz.prog 96 [.i .i64 x] (.i .i64 r)) (a:Int) (r:Int×Int×Int) (h:eW n a=some r):
  jN Tryz.prog 182 [.i .i64 a] (.tp [.i .i64 r.1,.i .i64 r.2.1,.i .i64 r.2.2]):=by
 intro w D k hx;simp only [VRs,VR] at hx;obtain ⟨_,_,m,rfl,rfl⟩:=hx;have:D=#[.int .i64 a]:=by apply jQ;simpa using m
 subst this;clear m;simp only [eW] at h;obtain ⟨e,C,h⟩:=ar h;have call:∀b:World,GL gf b->Calls Tryz.prog 96 #[.int .i64 a] b λx w'=>x=.returned (.int .i64 e)/\Below b.heap.size b w':=λb c=>
  (hc a e C b _ c (by simp [VRs,VR])).mono λx w' ⟨y,u,o,p⟩=>by
   simp only [VR] at o;exact ⟨by rw [u,o],p.below⟩
 cases f:(e != 0) with
 | true=>
  rw [f] at h;simp only [aj,ak] at h;subst h;have s:¬e=0:=by simpa using f
  go_enter Tryz.func182,Tryz.ntmps182
  go_wp2_with (go_at_call 96;refine (call _ k).mono ?_)
  rintro x b ⟨rfl,b1⟩
  go_wp2
  go_ret3
  exact ⟨_,rfl,by simp [VR,VRs],Below.fr b1⟩
 | false=>
  rw [f] at h;simp only [ah] at h;obtain ⟨j,t,h⟩:=ar h;obtain ⟨q,v,h⟩:=ar h;simp only [ak] at h;subst h;have g:e=0:=by simpa using f
  subst g
  go_enter Tryz.func182,Tryz.ntmps182
  go_wp2_with (go_at_call 96;refine (call _ k).mono ?_)
  rintro x b ⟨rfl,b1⟩;have c:GL gf b:=k.below b1;obtain ⟨l,z⟩:=Fh t;have d:=D7 v;have F:wrap64 (a - 21)=(j:Int):=by rw [<-l,EO];unfold wrap64;rfl
  have A:0<=wrap64 (a - 21):=by omega
  have B:wrap64 (a - 21)<21:=by omega
  have E:(wrap64 (a - 21)).toNat=j:=by omega
  have k0:b.cell? ⟨2,j*2,none⟩=some (.int .i64 q.1):=EZ c d.1;have k1:b.cell? ⟨2,j*2+1,none⟩=some (.int .i64 q.2):=EZ c d.2;have mixed:Tryz.prog.follows .mixedOrders=true:=by kernel_rfl
  go_wp2_with fail
  go_region
  go_wp2
  go_ret3
  refine ⟨_,rfl,by simp [VR,VRs],Below.fr ?_⟩;exact ((b1.alloc b1.size _).drew)
end Go.Sh
