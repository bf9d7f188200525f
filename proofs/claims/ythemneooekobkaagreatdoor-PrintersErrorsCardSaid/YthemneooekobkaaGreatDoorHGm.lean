
/- months.length looks into a package-level table: its walk, by hand.
   (Numbers of functions and variables are filled in by hg.sh.)
   Conditions: none. -/
import Derived.Test.YthemneooekobkaaGreatDoorHGs
set_option linter.unusedVariables false
set_option linter.unusedSimpArgs false
set_option maxRecDepth 100000
namespace Go.Sh
open Go.Abs Go.Proofs Go.RowKit
theorem wX {w:World} (d:GL fm w) {i:Nat} {z:Int} (h:tX[i]?=some z):w.cell? ⟨6,i,none⟩=some (.int .i64 z):=by
 obtain ⟨L,⟨n,e,t,r,x,c,k,p,b,o,⟨u,m,q,l,rfl,a⟩,v,g,s,j⟩,f,_⟩:=d;have:=f (6,.cells e c (0,0)) (by simp);have a:=g i z h;rw [cV] at a;rw [aX this,a]
set_option maxHeartbeats 4000000 in
theorem qV (n:Nat) (hc:∀(x:Int) (r:Bool×Int),jp n x=some r->lC Tryz.prog 292 [.i .i64 x] (.tp [.b r.1,.i .i64 r.2])) (a m:Int) (r:Int) (h:dC n a m=some r):
  lC Tryz.prog 271 [.i .i64 a,.i .i64 m] (.i .i64 r):=by
 intro w A o hx;simp only [VRs,VR] at hx;obtain ⟨_,_,q,rfl,_,_,rfl,rfl,rfl⟩:=hx;have:A=#[.int .i64 a,.int .i64 m]:=by apply jZ;simpa using q
 subst this;clear q;simp only [dC] at h;obtain ⟨e,u,h⟩:=au h;obtain ⟨l,g⟩:=e;have call:Calls Tryz.prog 292 #[.int .i64 a] w λx w'=>x=.returned (.tuple #[.bool l,.int .i64 g])/\Below w.heap.size w w':=
  (hc a (l,g) u w _ o (by simp [VRs,VR])).mono λx w' ⟨y,C,p,s⟩=>by
   simp only [VR,VRs] at p;obtain ⟨G,rfl,_,_,D,rfl,_,_,rfl,rfl,rfl⟩:=p;refine ⟨?_,s.below⟩;rw [C];congr 2;apply jZ;simpa using D
 have mixed:Tryz.prog.follows .mixedOrders=true:=by kernel_rfl
 cases d:(l&&(m==2)) with
 | true=>
  simp only [d,aj,am] at h;subst h;simp only [ay,bU] at d;obtain ⟨rfl,rfl⟩:=d
  go_enter Tryz.func271,Tryz.ntmps271
  go_wp2_with (go_at_call 292;refine call.mono ?_)
  rintro x f ⟨rfl,c⟩
  go_wp2
  go_ret
  exact ⟨_,rfl,by simp [VR,VRs],Below.fr c⟩
 | false=>
  simp only [d,ae] at h;obtain ⟨j,z,h⟩:=au h;obtain ⟨k,v⟩:=EU z;have F:wrap64 (m - 1)=(j:Int):=by rw [<-k,ES];unfold wrap64;rfl
  have t:0<=wrap64 (m - 1):=by omega
  have B:wrap64 (m - 1)<12:=by omega
  have E:(wrap64 (m - 1)).toNat=j:=by omega
  cases l with
  | false=>
   go_enter Tryz.func271,Tryz.ntmps271
   go_wp2_with (go_at_call 292;refine call.mono ?_)
   rintro x f ⟨rfl,c⟩;have k0:f.cell? ⟨6,j,none⟩=some (.int .i64 r):=wX (o.below c) h
   go_wp2
   go_ret
   exact ⟨_,rfl,by simp [VR,VRs],Below.fr c⟩
  | true=>
   have H:¬m=2:=by simpa using d
   go_enter Tryz.func271,Tryz.ntmps271
   go_wp2_with (go_at_call 292;refine call.mono ?_)
   rintro x f ⟨rfl,c⟩;have k0:f.cell? ⟨6,j,none⟩=some (.int .i64 r):=wX (o.below c) h
   go_wp2
   go_ret
   exact ⟨_,rfl,by simp [VR,VRs],Below.fr c⟩
end Go.Sh
