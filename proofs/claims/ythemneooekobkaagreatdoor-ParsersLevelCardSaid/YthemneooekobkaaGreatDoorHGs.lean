
/- seasons.Months looks into a package-level table: its walk, by hand.
   (FMONTHS, FCHECK: the seat's numbers of the functions; Tryz its alias; @T@ the number of the struct.)
   Conditions: none. -/
import Derived.Test.YthemneooekobkaaGreatDoorShP
import Derived.Test.YthemneooekobkaaGreatDoorProg
import Derived.WalkKit
import Derived.BigCall
import Derived.OwnWalk
import Derived.StillTactics
import Derived.RegionTactic
set_option linter.unusedVariables false
set_option linter.unusedSimpArgs false
set_option maxRecDepth 100000
namespace Go.Sh
open Go.Abs Go.Proofs Go.RowKit
theorem EW {w:World} (d:GL iM w) {i:Nat} {z:Int} (h:pS[i]?=some z):w.cell? ⟨5,i,none⟩=some (.int .i64 z):=by
 obtain ⟨L,⟨g,q,n,c3,e,l,m,k,b,o,⟨r,s,u,j,rfl,a⟩,c,v,p,t⟩,f,_⟩:=d;have:=f (5,.cells g e (0,0)) (by simp);have a:=c i z h;rw [cL] at a;rw [bz this,a]
theorem Fa {n:Nat} {i:Int} {j:Nat} (h:ix n i=some j):i=(j:Int)/\j<n:=by
 unfold ix at h;split at h
 ·rename_i a;simp only [aq] at h;omega
 ·cases h
theorem CV {j:Nat} {q:Int×Int} (h:lV[j]?=some q):pS[j*2]?=some q.1/\pS[j*2+1]?=some q.2:=by
 have c:j<21:=by
  rcases aF j 21 with b | b
  ·exact b
  ·rw [fU (by simpa [lV] using b)] at h;cases h
 have key:∀j:Fin 21,∃q,lV[j.1]?=some q/\pS[j.1*2]?=some q.1/\pS[j.1*2+1]?=some q.2:=by
  have:((List.range 21).all λj=>match lV[j]? with | some q=>pS[j*2]?==some q.1&&pS[j*2+1]?==some q.2 | none=>false)=true:=by decide
  intro ⟨j,c⟩;have a:=(bS.1 this) j (by simpa using c);simp only;split at a
  ·rename_i q e;simp only [aA,bg] at a;exact ⟨q,e,a⟩
  ·cases a
 obtain ⟨f,a,d⟩:=key ⟨j,c⟩;simp only at a d;rw [h] at a;cases a;exact d
set_option maxHeartbeats 4000000 in
theorem qh (n:Nat) (hc:∀(x:Int) (r:Int),db n x=some r->jP Tryz.prog 100 [.i .i64 x] (.i .i64 r)) (a:Int) (r:Int×Int×Int) (h:eG n a=some r):
  jP Tryz.prog 236 [.i .i64 a] (.tp [.i .i64 r.1,.i .i64 r.2.1,.i .i64 r.2.2]):=by
 intro w D l o;simp only [VRs,VR] at o;obtain ⟨_,_,m,rfl,rfl⟩:=o;have:D=#[.int .i64 a]:=by apply kY;simpa using m
 subst this;clear m;simp only [eG] at h;obtain ⟨e,t,h⟩:=av h;have call:∀b:World,GL iM b->Calls Tryz.prog 100 #[.int .i64 a] b λx w'=>x=.returned (.int .i64 e)/\Below b.heap.size b w':=λb c=>
  (hc a e t b _ c (by simp [VRs,VR])).mono λx w' ⟨y,B,p,C⟩=>by
   simp only [VR] at p;exact ⟨by rw [B,p],C.below⟩
 cases f:(e != 0) with
 | true=>
  rw [f] at h;simp only [aj,aq] at h;subst h;have u:¬e=0:=by simpa using f
  go_enter Tryz.func236,Tryz.ntmps236
  go_wp2_with (go_at_call 100;refine (call _ l).mono ?_)
  rintro x b ⟨rfl,b1⟩
  go_wp2
  go_ret3
  exact ⟨_,rfl,by simp [VR,VRs],Below.fr b1⟩
 | false=>
  rw [f] at h;simp only [af] at h;obtain ⟨j,v,h⟩:=av h;obtain ⟨q,z,h⟩:=av h;simp only [aq] at h;subst h;have k:e=0:=by simpa using f
  subst k
  go_enter Tryz.func236,Tryz.ntmps236
  go_wp2_with (go_at_call 100;refine (call _ l).mono ?_)
  rintro x b ⟨rfl,b1⟩;have c:GL iM b:=l.below b1;obtain ⟨g,E⟩:=Fa v;have d:=CV z;have F:wrap64 (a - 21)=(j:Int):=by rw [<-g,Di];unfold wrap64;rfl
  have A:0<=wrap64 (a - 21):=by omega
  have s:wrap64 (a - 21)<21:=by omega
  have G:(wrap64 (a - 21)).toNat=j:=by omega
  have k0:b.cell? ⟨5,j*2,none⟩=some (.int .i64 q.1):=EW c d.1;have k1:b.cell? ⟨5,j*2+1,none⟩=some (.int .i64 q.2):=EW c d.2;have mixed:Tryz.prog.follows .mixedOrders=true:=by kernel_rfl
  go_wp2_with fail
  go_region
  go_wp2
  go_ret3
  refine ⟨_,rfl,by simp [VR,VRs],Below.fr ?_⟩;exact ((b1.alloc b1.size _).drew)
end Go.Sh
