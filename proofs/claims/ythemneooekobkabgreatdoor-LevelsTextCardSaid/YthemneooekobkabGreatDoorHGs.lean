
/- seasons.Months looks into a package-level table: its walk, by hand.
   (FMONTHS, FCHECK: the seat's numbers of the functions; Tryz its alias; @T@ the number of the struct.)
   Conditions: none. -/
import Derived.Test.YthemneooekobkabGreatDoorShQ
import Derived.Test.YthemneooekobkabGreatDoorProg
import Derived.WalkKit
import Derived.BigCall
import Derived.OwnWalk
import Derived.StillTactics
import Derived.RegionTactic
set_option linter.unusedVariables false
set_option linter.unusedSimpArgs false
set_option maxRecDepth 100000
namespace Go.Sh
open Go.Abs Go.Proofs Go.RowKit
theorem GB {w:World} (e:GL ie w) {i:Nat} {z:Int} (h:sO[i]?=some z):w.cell? ⟨3,i,none⟩=some (.int .i64 z):=by
 obtain ⟨L,⟨g,j,q,r,d,u,v,p,b,o,⟨c4,n,m,s,rfl,a⟩,f,l,t,k⟩,c,_⟩:=e;have:=c (3,.cells g d (0,0)) (by simp);have a:=f i z h;rw [da] at a;rw [bw this,a]
theorem Il {n:Nat} {i:Int} {j:Nat} (h:ix n i=some j):i=(j:Int)/\j<n:=by
 unfold ix at h;split at h
 ·rename_i a;simp only [au] at h;omega
 ·cases h
theorem FZ {j:Nat} {q:Int×Int} (h:n8[j]?=some q):sO[j*2]?=some q.1/\sO[j*2+1]?=some q.2:=by
 have b:j<21:=by
  rcases aH j 21 with c | c
  ·exact c
  ·rw [g9 (by simpa [n8] using c)] at h;cases h
 have key:∀j:Fin 21,∃q,n8[j.1]?=some q/\sO[j.1*2]?=some q.1/\sO[j.1*2+1]?=some q.2:=by
  have:((List.range 21).all λj=>match n8[j]? with | some q=>sO[j*2]?==some q.1&&sO[j*2+1]?==some q.2 | none=>false)=true:=by decide
  intro ⟨j,b⟩;have a:=(cK.1 this) j (by simpa using b);simp only;split at a
  ·rename_i q e;simp only [aA,bI] at a;exact ⟨q,e,a⟩
  ·cases a
 obtain ⟨f,a,d⟩:=key ⟨j,b⟩;simp only at a d;rw [h] at a;cases a;exact d
set_option maxHeartbeats 4000000 in
theorem tD (n:Nat) (hc:∀(x:Int) (r:Int),dM n x=some r->lq Tryz.prog 96 [.i .i64 x] (.i .i64 r)) (a:Int) (r:Int×Int×Int) (h:fF n a=some r):
  lq Tryz.prog 266 [.i .i64 a] (.tp [.i .i64 r.1,.i .i64 r.2.1,.i .i64 r.2.2]):=by
 intro w p l hx;simp only [VRs,VR] at hx;obtain ⟨_,_,o,rfl,rfl⟩:=hx;have:p=#[.int .i64 a]:=by apply lG;simpa using o
 subst this;clear o;simp only [fF] at h;obtain ⟨e,v,h⟩:=av h;have call:∀b:World,GL ie b->Calls Tryz.prog 96 #[.int .i64 a] b λx w'=>x=.returned (.int .i64 e)/\Below b.heap.size b w':=λb c=>
  (hc a e v b _ c (by simp [VRs,VR])).mono λx w' ⟨y,t,m,A⟩=>by
   simp only [VR] at m;exact ⟨by rw [t,m],A.below⟩
 cases f:(e != 0) with
 | true=>
  rw [f] at h;simp only [ah,au] at h;subst h;have C:¬e=0:=by simpa using f
  go_enter Tryz.func266,Tryz.ntmps266
  go_wp2_with (go_at_call 96;refine (call _ l).mono ?_)
  rintro x b ⟨rfl,b1⟩
  go_wp2
  go_ret3
  exact ⟨_,rfl,by simp [VR,VRs],Below.fr b1⟩
 | false=>
  rw [f] at h;simp only [af] at h;obtain ⟨j,B,h⟩:=av h;obtain ⟨q,u,h⟩:=av h;simp only [au] at h;subst h;have k:e=0:=by simpa using f
  subst k
  go_enter Tryz.func266,Tryz.ntmps266
  go_wp2_with (go_at_call 96;refine (call _ l).mono ?_)
  rintro x b ⟨rfl,b1⟩;have c:GL ie b:=l.below b1;obtain ⟨g,D⟩:=Il B;have d:=FZ u;have E:wrap64 (a - 21)=(j:Int):=by rw [<-g,HO];unfold wrap64;rfl
  have z:0<=wrap64 (a - 21):=by omega
  have s:wrap64 (a - 21)<21:=by omega
  have F:(wrap64 (a - 21)).toNat=j:=by omega
  have k0:b.cell? ⟨3,j*2,none⟩=some (.int .i64 q.1):=GB c d.1;have k1:b.cell? ⟨3,j*2+1,none⟩=some (.int .i64 q.2):=GB c d.2;have mixed:Tryz.prog.follows .mixedOrders=true:=by kernel_rfl
  go_wp2_with fail
  go_region
  go_wp2
  go_ret3
  refine ⟨_,rfl,by simp [VR,VRs],Below.fr ?_⟩;exact ((b1.alloc b1.size _).drew)
end Go.Sh
