
/- months.length looks into a package-level table: its walk, by hand.
   (Numbers of functions and variables are filled in by hg.sh.)
   Conditions: none. -/
import Derived.Test.YthemneooekobkaaGreatDoorHGs
set_option linter.unusedVariables false
set_option linter.unusedSimpArgs false
set_option maxRecDepth 100000
namespace Go.Sh
open Go.Abs Go.Proofs Go.RowKit
theorem zO {w:World} (d:GL jI w) {i:Nat} {z:Int} (h:wF[i]?=some z):w.cell? ⟨6,i,none⟩=some (.int .i64 z):=by
 obtain ⟨L,⟨u,f,p,n,k,g,v,t,b,o,⟨c4,m,q,r,rfl,a⟩,j,e,l,s⟩,c,_⟩:=d;have:=c (6,.cells f g (0,0)) (by simp);have a:=e i z h;rw [cX] at a;rw [bA this,a]
set_option maxHeartbeats 4000000 in
theorem uc (n:Nat) (hc:∀(x:Int) (r:Bool×Int),kJ n x=some r->nZ Tryz.prog 292 [.i .i64 x] (.tp [.b r.1,.i .i64 r.2])) (a m:Int) (r:Int) (h:eJ n a m=some r):
  nZ Tryz.prog 271 [.i .i64 a,.i .i64 m] (.i .i64 r):=by
 intro w B k hx;simp only [VRs,VR] at hx;obtain ⟨_,_,p,rfl,_,_,rfl,rfl,rfl⟩:=hx;have:B=#[.int .i64 a,.int .i64 m]:=by apply m6;simpa using p
 subst this;clear p;simp only [eJ] at h;obtain ⟨e,q,h⟩:=ay h;obtain ⟨l,g⟩:=e;have call:Calls Tryz.prog 292 #[.int .i64 a] w λx w'=>x=.returned (.tuple #[.bool l,.int .i64 g])/\Below w.heap.size w w':=
  (hc a (l,g) q w _ k (by simp [VRs,VR])).mono λx w' ⟨y,t,o,z⟩=>by
   simp only [VR,VRs] at o;obtain ⟨D,rfl,_,_,v,rfl,_,_,rfl,rfl,rfl⟩:=o;refine ⟨?_,z.below⟩;rw [t];congr 2;apply m6;simpa using v
 have mixed:Tryz.prog.follows .mixedOrders=true:=by kernel_rfl
 cases c:(l&&(m==2)) with
 | true=>
  simp only [c,ah,aw] at h;subst h;simp only [aD,bp] at c;obtain ⟨rfl,rfl⟩:=c
  go_enter Tryz.func271,Tryz.ntmps271
  go_wp2_with (go_at_call 292;refine call.mono ?_)
  rintro x d ⟨rfl,b1⟩
  go_wp2
  go_ret
  exact ⟨_,rfl,by simp [VR,VRs],Below.fr b1⟩
 | false=>
  simp only [c,af] at h;obtain ⟨j,A,h⟩:=ay h;obtain ⟨f,s⟩:=Ij A;have E:wrap64 (m - 1)=(j:Int):=by rw [<-f,Is];unfold wrap64;rfl
  have C:0<=wrap64 (m - 1):=by omega
  have u:wrap64 (m - 1)<12:=by omega
  have F:(wrap64 (m - 1)).toNat=j:=by omega
  cases l with
  | false=>
   go_enter Tryz.func271,Tryz.ntmps271
   go_wp2_with (go_at_call 292;refine call.mono ?_)
   rintro x d ⟨rfl,b1⟩;have k0:d.cell? ⟨6,j,none⟩=some (.int .i64 r):=zO (k.below b1) h
   go_wp2
   go_ret
   exact ⟨_,rfl,by simp [VR,VRs],Below.fr b1⟩
  | true=>
   have G:¬m=2:=by simpa using c
   go_enter Tryz.func271,Tryz.ntmps271
   go_wp2_with (go_at_call 292;refine call.mono ?_)
   rintro x d ⟨rfl,b1⟩;have k0:d.cell? ⟨6,j,none⟩=some (.int .i64 r):=zO (k.below b1) h
   go_wp2
   go_ret
   exact ⟨_,rfl,by simp [VR,VRs],Below.fr b1⟩
end Go.Sh
