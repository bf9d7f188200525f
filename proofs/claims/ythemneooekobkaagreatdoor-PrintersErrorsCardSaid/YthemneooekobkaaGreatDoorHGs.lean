
/- seasons.Months looks into a package-level table: its walk, by hand.
   (FMONTHS, FCHECK: the seat's numbers of the functions; Tryz its alias; @T@ the number of the struct.)
   Conditions: none. -/
import Derived.Test.YthemneooekobkaaGreatDoorShP
import Derived.Test.YthemneooekobkaaGreatDoorProg
import Derived.WalkKit
import Derived.BigCall
import Derived.OwnWalk
import Derived.StillTactics
import Derived.RegionTactic
set_option linter.unusedVariables false
set_option linter.unusedSimpArgs false
set_option maxRecDepth 100000
namespace Go.Sh
open Go.Abs Go.Proofs Go.RowKit
theorem E9 {w:World} (c:GL fm w) {i:Nat} {z:Int} (h:qa[i]?=some z):w.cell? ⟨5,i,none⟩=some (.int .i64 z):=by
 obtain ⟨L,⟨d,n,u,s,g,j,l,q,b,o,⟨v,p,r,m,rfl,a⟩,f,x,t,k⟩,e,_⟩:=c;have:=e (5,.cells d g (0,0)) (by simp);have a:=f i z h;rw [cV] at a;rw [aX this,a]
theorem EU {n:Nat} {i:Int} {j:Nat} (h:ix n i=some j):i=(j:Int)/\j<n:=by
 unfold ix at h;split at h
 ·rename_i a;simp only [am] at h;omega
 ·cases h
theorem Bo {j:Nat} {q:Int×Int} (h:md[j]?=some q):qa[j*2]?=some q.1/\qa[j*2+1]?=some q.2:=by
 have c:j<21:=by
  rcases aH j 21 with b | b
  ·exact b
  ·rw [eF (by simpa [md] using b)] at h;cases h
 have key:∀j:Fin 21,∃q,md[j.1]?=some q/\qa[j.1*2]?=some q.1/\qa[j.1*2+1]?=some q.2:=by
  have:((List.range 21).all λj=>match md[j]? with | some q=>qa[j*2]?==some q.1&&qa[j*2+1]?==some q.2 | none=>false)=true:=by decide
  intro ⟨j,c⟩;have a:=(cr.1 this) j (by simpa using c);simp only;split at a
  ·rename_i q e;simp only [ay,bU] at a;exact ⟨q,e,a⟩
  ·cases a
 obtain ⟨f,a,d⟩:=key ⟨j,c⟩;simp only at a d;rw [h] at a;cases a;exact d
set_option maxHeartbeats 4000000 in
theorem qF (n:Nat) (hc:∀(x:Int) (r:Int),da n x=some r->lC Tryz.prog 100 [.i .i64 x] (.i .i64 r)) (a:Int) (r:Int×Int×Int) (h:eh n a=some r):
  lC Tryz.prog 236 [.i .i64 a] (.tp [.i .i64 r.1,.i .i64 r.2.1,.i .i64 r.2.2]):=by
 intro w C l hx;simp only [VRs,VR] at hx;obtain ⟨_,_,p,rfl,rfl⟩:=hx;have:C=#[.int .i64 a]:=by apply jZ;simpa using p
 subst this;clear p;simp only [eh] at h;obtain ⟨e,v,h⟩:=au h;have call:∀b:World,GL fm b->Calls Tryz.prog 100 #[.int .i64 a] b λx w'=>x=.returned (.int .i64 e)/\Below b.heap.size b w':=λb c=>
  (hc a e v b _ c (by simp [VRs,VR])).mono λx w' ⟨y,E,o,s⟩=>by
   simp only [VR] at o;exact ⟨by rw [E,o],s.below⟩
 cases g:(e != 0) with
 | true=>
  rw [g] at h;simp only [aj,am] at h;subst h;have u:¬e=0:=by simpa using g
  go_enter Tryz.func236,Tryz.ntmps236
  go_wp2_with (go_at_call 100;refine (call _ l).mono ?_)
  rintro x b ⟨rfl,f⟩
  go_wp2
  go_ret3
  exact ⟨_,rfl,by simp [VR,VRs],Below.fr f⟩
 | false=>
  rw [g] at h;simp only [ae] at h;obtain ⟨j,B,h⟩:=au h;obtain ⟨q,z,h⟩:=au h;simp only [am] at h;subst h;have m:e=0:=by simpa using g
  subst m
  go_enter Tryz.func236,Tryz.ntmps236
  go_wp2_with (go_at_call 100;refine (call _ l).mono ?_)
  rintro x b ⟨rfl,f⟩;have c:GL fm b:=l.below f;obtain ⟨k,A⟩:=EU B;have d:=Bo z;have G:wrap64 (a - 21)=(j:Int):=by rw [<-k,ES];unfold wrap64;rfl
  have t:0<=wrap64 (a - 21):=by omega
  have D:wrap64 (a - 21)<21:=by omega
  have F:(wrap64 (a - 21)).toNat=j:=by omega
  have k0:b.cell? ⟨5,j*2,none⟩=some (.int .i64 q.1):=E9 c d.1;have k1:b.cell? ⟨5,j*2+1,none⟩=some (.int .i64 q.2):=E9 c d.2;have mixed:Tryz.prog.follows .mixedOrders=true:=by kernel_rfl
  go_wp2_with fail
  go_region
  go_wp2
  go_ret3
  refine ⟨_,rfl,by simp [VR,VRs],Below.fr ?_⟩;exact ((f.alloc f.size _).drew)
end Go.Sh
