
/- seasons.Months looks into a package-level table: its walk, by hand.
   (FMONTHS, FCHECK: the seat's numbers of the functions; Tryz its alias; @T@ the number of the struct.)
   Conditions: none. -/
import Derived.Test.YtaogbalpingjhaaGreatDoorShS
import Derived.Test.YtaogbalpingjhaaGreatDoorProg
import Derived.WalkKit
import Derived.BigCall
import Derived.OwnWalk
import Derived.StillTactics
import Derived.RegionTactic
set_option linter.unusedVariables false
set_option linter.unusedSimpArgs false
set_option maxRecDepth 100000
namespace Go.Sh
open Go.Abs Go.Proofs Go.RowKit
theorem EI {w:World} (f:GL fP w) {i:Nat} {z:Int} (h:pO[i]?=some z):w.cell? ⟨4,i,none⟩=some (.int .i64 z):=by
 obtain ⟨L,⟨e,l,p,c3,g,k,v,m,b,o,⟨u,q,j,n,rfl,a⟩,d,r,t,s⟩,c,_⟩:=f;have:=c (4,.cells e g (0,0)) (by simp);have a:=d i z h;rw [cb] at a;rw [aV this,a]
theorem EN {n:Nat} {i:Int} {j:Nat} (h:ix n i=some j):i=(j:Int)/\j<n:=by
 unfold ix at h;split at h
 ·rename_i a;simp only [ah] at h;omega
 ·cases h
theorem CE {j:Nat} {q:Int×Int} (h:lX[j]?=some q):pO[j*2]?=some q.1/\pO[j*2+1]?=some q.2:=by
 have b:j<21:=by
  rcases aE j 21 with c | c
  ·exact c
  ·rw [eX (by simpa [lX] using c)] at h;cases h
 have key:∀j:Fin 21,∃q,lX[j.1]?=some q/\pO[j.1*2]?=some q.1/\pO[j.1*2+1]?=some q.2:=by
  have:((List.range 21).all λj=>match lX[j]? with | some q=>pO[j*2]?==some q.1&&pO[j*2+1]?==some q.2 | none=>false)=true:=by decide
  intro ⟨j,b⟩;have a:=(bL.1 this) j (by simpa using b);simp only;split at a
  ·rename_i q e;simp only [az,bA] at a;exact ⟨q,e,a⟩
  ·cases a
 obtain ⟨f,a,d⟩:=key ⟨j,b⟩;simp only at a d;rw [h] at a;cases a;exact d
set_option maxHeartbeats 4000000 in
theorem qi (n:Nat) (hc:∀(x:Int) (r:Int),cT n x=some r->jh Tryz.prog 128 [.i .i64 x] (.i .i64 r)) (a:Int) (r:Int×Int×Int) (h:dY n a=some r):
  jh Tryz.prog 180 [.i .i64 a] (.tp [.i .i64 r.1,.i .i64 r.2.1,.i .i64 r.2.2]):=by
 intro w B g hx;simp only [VRs,VR] at hx;obtain ⟨_,_,m,rfl,rfl⟩:=hx;have:B=#[.int .i64 a]:=by apply jv;simpa using m
 subst this;clear m;simp only [dY] at h;obtain ⟨e,v,h⟩:=ak h;have call:∀b:World,GL fP b->Calls Tryz.prog 128 #[.int .i64 a] b λx w'=>x=.returned (.int .i64 e)/\Below b.heap.size b w':=λb c=>
  (hc a e v b _ c (by simp [VRs,VR])).mono λx w' ⟨y,s,o,C⟩=>by
   simp only [VR] at o;exact ⟨by rw [s,o],C.below⟩
 cases f:(e != 0) with
 | true=>
  rw [f] at h;simp only [aj,ah] at h;subst h;have D:¬e=0:=by simpa using f
  go_enter Tryz.func180,Tryz.ntmps180
  go_wp2_with (go_at_call 128;refine (call _ g).mono ?_)
  rintro x b ⟨rfl,b1⟩
  go_wp2
  go_ret3
  exact ⟨_,rfl,by simp [VR,VRs],Below.fr b1⟩
 | false=>
  rw [f] at h;simp only [af] at h;obtain ⟨j,z,h⟩:=ak h;obtain ⟨q,u,h⟩:=ak h;simp only [ah] at h;subst h;have k:e=0:=by simpa using f
  subst k
  go_enter Tryz.func180,Tryz.ntmps180
  go_wp2_with (go_at_call 128;refine (call _ g).mono ?_)
  rintro x b ⟨rfl,b1⟩;have c:GL fP b:=g.below b1;obtain ⟨l,t⟩:=EN z;have d:=CE u;have E:wrap64 (a - 21)=(j:Int):=by rw [<-l,DG];unfold wrap64;rfl
  have A:0<=wrap64 (a - 21):=by omega
  have p:wrap64 (a - 21)<21:=by omega
  have F:(wrap64 (a - 21)).toNat=j:=by omega
  have k0:b.cell? ⟨4,j*2,none⟩=some (.int .i64 q.1):=EI c d.1;have k1:b.cell? ⟨4,j*2+1,none⟩=some (.int .i64 q.2):=EI c d.2;have mixed:Tryz.prog.follows .mixedOrders=true:=by kernel_rfl
  go_wp2_with fail
  go_region
  go_wp2
  go_ret3
  refine ⟨_,rfl,by simp [VR,VRs],Below.fr ?_⟩;exact ((b1.alloc b1.size _).drew)
end Go.Sh
