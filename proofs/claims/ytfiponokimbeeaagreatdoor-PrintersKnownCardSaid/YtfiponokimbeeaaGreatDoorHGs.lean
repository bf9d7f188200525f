
/- seasons.Months looks into a package-level table: its walk, by hand.
   (FMONTHS, FCHECK: the seat's numbers of the functions; Tryz its alias; @T@ the number of the struct.)
   Conditions: none. -/
import Derived.Test.YtfiponokimbeeaaGreatDoorShR
import Derived.Test.YtfiponokimbeeaaGreatDoorProg
import Derived.WalkKit
import Derived.BigCall
import Derived.OwnWalk
import Derived.StillTactics
import Derived.RegionTactic
set_option linter.unusedVariables false
set_option linter.unusedSimpArgs false
set_option maxRecDepth 100000
namespace Go.Sh
open Go.Abs Go.Proofs Go.RowKit
theorem H8 {w:World} (e:GL ie w) {i:Nat} {z:Int} (h:sq[i]?=some z):w.cell? ⟨2,i,none⟩=some (.int .i64 z):=by
 obtain ⟨L,⟨f,p,r,u,g,k,n,t,b,o,⟨c4,q,s,j,rfl,a⟩,d,m,v,l⟩,c,_⟩:=e;have:=c (2,.cells f g (0,0)) (by simp);have a:=d i z h;rw [dq] at a;rw [bp this,a]
theorem Gj {n:Nat} {i:Int} {j:Nat} (h:ix n i=some j):i=(j:Int)/\j<n:=by
 unfold ix at h;split at h
 ·rename_i a;simp only [au] at h;omega
 ·cases h
theorem FP {j:Nat} {q:Int×Int} (h:nB[j]?=some q):sq[j*2]?=some q.1/\sq[j*2+1]?=some q.2:=by
 have b:j<21:=by
  rcases aH j 21 with c | c
  ·exact c
  ·rw [gW (by simpa [nB] using c)] at h;cases h
 have key:∀j:Fin 21,∃q,nB[j.1]?=some q/\sq[j.1*2]?=some q.1/\sq[j.1*2+1]?=some q.2:=by
  have:((List.range 21).all λj=>match nB[j]? with | some q=>sq[j*2]?==some q.1&&sq[j*2+1]?==some q.2 | none=>false)=true:=by decide
  intro ⟨j,b⟩;have a:=(cL.1 this) j (by simpa using b);simp only;split at a
  ·rename_i q e;simp only [az,bI] at a;exact ⟨q,e,a⟩
  ·cases a
 obtain ⟨f,a,d⟩:=key ⟨j,b⟩;simp only at a d;rw [h] at a;cases a;exact d
set_option maxHeartbeats 4000000 in
theorem sF (n:Nat) (hc:∀(x:Int) (r:Int),dI n x=some r->lk Tryz.prog 96 [.i .i64 x] (.i .i64 r)) (a:Int) (r:Int×Int×Int) (h:fB n a=some r):
  lk Tryz.prog 182 [.i .i64 a] (.tp [.i .i64 r.1,.i .i64 r.2.1,.i .i64 r.2.2]):=by
 intro w u l hx;simp only [VRs,VR] at hx;obtain ⟨_,_,o,rfl,rfl⟩:=hx;have:u=#[.int .i64 a]:=by apply ll;simpa using o
 subst this;clear o;simp only [fB] at h;obtain ⟨e,D,h⟩:=av h;have call:∀b:World,GL ie b->Calls Tryz.prog 96 #[.int .i64 a] b λx w'=>x=.returned (.int .i64 e)/\Below b.heap.size b w':=λb c=>
  (hc a e D b _ c (by simp [VRs,VR])).mono λx w' ⟨y,B,m,A⟩=>by
   simp only [VR] at m;exact ⟨by rw [B,m],A.below⟩
 cases f:(e != 0) with
 | true=>
  rw [f] at h;simp only [ah,au] at h;subst h;have z:¬e=0:=by simpa using f
  go_enter Tryz.func182,Tryz.ntmps182
  go_wp2_with (go_at_call 96;refine (call _ l).mono ?_)
  rintro x b ⟨rfl,b1⟩
  go_wp2
  go_ret3
  exact ⟨_,rfl,by simp [VR,VRs],Below.fr b1⟩
 | false=>
  rw [f] at h;simp only [af] at h;obtain ⟨j,s,h⟩:=av h;obtain ⟨q,p,h⟩:=av h;simp only [au] at h;subst h;have g:e=0:=by simpa using f
  subst g
  go_enter Tryz.func182,Tryz.ntmps182
  go_wp2_with (go_at_call 96;refine (call _ l).mono ?_)
  rintro x b ⟨rfl,b1⟩;have c:GL ie b:=l.below b1;obtain ⟨k,C⟩:=Gj s;have d:=FP p;have E:wrap64 (a - 21)=(j:Int):=by rw [<-k,Gw];unfold wrap64;rfl
  have v:0<=wrap64 (a - 21):=by omega
  have t:wrap64 (a - 21)<21:=by omega
  have F:(wrap64 (a - 21)).toNat=j:=by omega
  have k0:b.cell? ⟨2,j*2,none⟩=some (.int .i64 q.1):=H8 c d.1;have k1:b.cell? ⟨2,j*2+1,none⟩=some (.int .i64 q.2):=H8 c d.2;have mixed:Tryz.prog.follows .mixedOrders=true:=by kernel_rfl
  go_wp2_with fail
  go_region
  go_wp2
  go_ret3
  refine ⟨_,rfl,by simp [VR,VRs],Below.fr ?_⟩;exact ((b1.alloc b1.size _).drew)
end Go.Sh
