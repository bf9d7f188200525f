
/- seasons.Months looks into a package-level table: its walk, by hand.
   (FMONTHS, FCHECK: the seat's numbers of the functions; Tryz its alias; @T@ the number of the struct.)
   Conditions: none. -/
import Derived.Test.YthemneooekobkabGreatDoorShQ
import Derived.Test.YthemneooekobkabGreatDoorProg
import Derived.WalkKit
import Derived.BigCall
import Derived.OwnWalk
import Derived.StillTactics
import Derived.RegionTactic
set_option linter.unusedVariables false
set_option linter.unusedSimpArgs false
set_option maxRecDepth 100000
namespace Go.Sh
open Go.Abs Go.Proofs Go.RowKit
theorem HD {w:World} (f:GL gY w) {i:Nat} {z:Int} (h:sS[i]?=some z):w.cell? ⟨3,i,none⟩=some (.int .i64 z):=by
 obtain ⟨L,⟨e,v,p,r,c,l,m,s,b,o,⟨q,k,j,n,rfl,a⟩,g,x,u,t⟩,d,_⟩:=f;have:=d (3,.cells e c (0,0)) (by simp);have a:=g i z h;rw [dk] at a;rw [bv this,a]
theorem GW {n:Nat} {i:Int} {j:Nat} (h:ix n i=some j):i=(j:Int)/\j<n:=by
 unfold ix at h;split at h
 ·rename_i a;simp only [av] at h;omega
 ·cases h
theorem Fh {j:Nat} {q:Int×Int} (h:nL[j]?=some q):sS[j*2]?=some q.1/\sS[j*2+1]?=some q.2:=by
 have c:j<21:=by
  rcases aH j 21 with b | b
  ·exact b
  ·rw [gU (by simpa [nL] using b)] at h;cases h
 have key:∀j:Fin 21,∃q,nL[j.1]?=some q/\sS[j.1*2]?=some q.1/\sS[j.1*2+1]?=some q.2:=by
  have:((List.range 21).all λj=>match nL[j]? with | some q=>sS[j*2]?==some q.1&&sS[j*2+1]?==some q.2 | none=>false)=true:=by decide
  intro ⟨j,c⟩;have a:=(cv.1 this) j (by simpa using c);simp only;split at a
  ·rename_i q e;simp only [aA,bu] at a;exact ⟨q,e,a⟩
  ·cases a
 obtain ⟨f,a,d⟩:=key ⟨j,c⟩;simp only at a d;rw [h] at a;cases a;exact d
set_option maxHeartbeats 4000000 in
theorem tg (n:Nat) (hc:∀(x:Int) (r:Int),dN n x=some r->k7 Tryz.prog 96 [.i .i64 x] (.i .i64 r)) (a:Int) (r:Int×Int×Int) (h:fG n a=some r):
  k7 Tryz.prog 266 [.i .i64 a] (.tp [.i .i64 r.1,.i .i64 r.2.1,.i .i64 r.2.2]):=by
 intro w s g hx;simp only [VRs,VR] at hx;obtain ⟨_,_,o,rfl,rfl⟩:=hx;have:s=#[.int .i64 a]:=by apply lh;simpa using o
 subst this;clear o;simp only [fG] at h;obtain ⟨e,u,h⟩:=aw h;have call:∀b:World,GL gY b->Calls Tryz.prog 96 #[.int .i64 a] b λx w'=>x=.returned (.int .i64 e)/\Below b.heap.size b w':=λb c=>
  (hc a e u b _ c (by simp [VRs,VR])).mono λx w' ⟨y,B,m,p⟩=>by
   simp only [VR] at m;exact ⟨by rw [B,m],p.below⟩
 cases f:(e != 0) with
 | true=>
  rw [f] at h;simp only [ah,av] at h;subst h;have t:¬e=0:=by simpa using f
  go_enter Tryz.func266,Tryz.ntmps266
  go_wp2_with (go_at_call 96;refine (call _ g).mono ?_)
  rintro x b ⟨rfl,b1⟩
  go_wp2
  go_ret3
  exact ⟨_,rfl,by simp [VR,VRs],Below.fr b1⟩
 | false=>
  rw [f] at h;simp only [af] at h;obtain ⟨j,z,h⟩:=aw h;obtain ⟨q,C,h⟩:=aw h;simp only [av] at h;subst h;have k:e=0:=by simpa using f
  subst k
  go_enter Tryz.func266,Tryz.ntmps266
  go_wp2_with (go_at_call 96;refine (call _ g).mono ?_)
  rintro x b ⟨rfl,b1⟩;have c:GL gY b:=g.below b1;obtain ⟨l,A⟩:=GW z;have d:=Fh C;have E:wrap64 (a - 21)=(j:Int):=by rw [<-l,Ii];unfold wrap64;rfl
  have v:0<=wrap64 (a - 21):=by omega
  have D:wrap64 (a - 21)<21:=by omega
  have F:(wrap64 (a - 21)).toNat=j:=by omega
  have k0:b.cell? ⟨3,j*2,none⟩=some (.int .i64 q.1):=HD c d.1;have k1:b.cell? ⟨3,j*2+1,none⟩=some (.int .i64 q.2):=HD c d.2;have mixed:Tryz.prog.follows .mixedOrders=true:=by kernel_rfl
  go_wp2_with fail
  go_region
  go_wp2
  go_ret3
  refine ⟨_,rfl,by simp [VR,VRs],Below.fr ?_⟩;exact ((b1.alloc b1.size _).drew)
end Go.Sh
