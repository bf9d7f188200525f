
/- months.length looks into a package-level table: its walk, by hand.
   (Numbers of functions and variables are filled in by hg.sh.)
   Conditions: none. -/
import Derived.Test.YthemneooekobkabGreatDoorHGs
set_option linter.unusedVariables false
set_option linter.unusedSimpArgs false
set_option maxRecDepth 100000
namespace Go.Sh
open Go.Abs Go.Proofs Go.RowKit
theorem y4 {w:World} (g:GL ip w) {i:Nat} {z:Int} (h:wh[i]?=some z):w.cell? ⟨4,i,none⟩=some (.int .i64 z):=by
 obtain ⟨L,⟨k,d,j,c3,r,c,n,l,b,o,⟨u,q,m,t,rfl,a⟩,v,f,p,s⟩,e,_⟩:=g;have:=e (4,.cells d c (0,0)) (by simp);have a:=f i z h;rw [de] at a;rw [bu this,a]
set_option maxHeartbeats 4000000 in
theorem tW (n:Nat) (hc:∀(x:Int) (r:Bool×Int),kL n x=some r->kY Tryz.prog 303 [.i .i64 x] (.tp [.b r.1,.i .i64 r.2])) (a m:Int) (r:Int) (h:eH n a m=some r):
  kY Tryz.prog 283 [.i .i64 a,.i .i64 m] (.i .i64 r):=by
 intro w C f hx;simp only [VRs,VR] at hx;obtain ⟨_,_,o,rfl,_,_,rfl,rfl,rfl⟩:=hx;have:C=#[.int .i64 a,.int .i64 m]:=by apply lG;simpa using o
 subst this;clear o;simp only [eH] at h;obtain ⟨e,q,h⟩:=av h;obtain ⟨l,g⟩:=e;have call:Calls Tryz.prog 303 #[.int .i64 a] w λx w'=>x=.returned (.tuple #[.bool l,.int .i64 g])/\Below w.heap.size w w':=
  (hc a (l,g) q w _ f (by simp [VRs,VR])).mono λx w' ⟨y,s,p,v⟩=>by
   simp only [VR,VRs] at p;obtain ⟨E,rfl,_,_,A,rfl,_,_,rfl,rfl,rfl⟩:=p;refine ⟨?_,v.below⟩;rw [s];congr 2;apply lG;simpa using A
 have mixed:Tryz.prog.follows .mixedOrders=true:=by kernel_rfl
 cases c:(l&&(m==2)) with
 | true=>
  simp only [c,ah,au] at h;subst h;simp only [aA,bG] at c;obtain ⟨rfl,rfl⟩:=c
  go_enter Tryz.func283,Tryz.ntmps283
  go_wp2_with (go_at_call 303;refine call.mono ?_)
  rintro x d ⟨rfl,b1⟩
  go_wp2
  go_ret
  exact ⟨_,rfl,by simp [VR,VRs],Below.fr b1⟩
 | false=>
  simp only [c,af] at h;obtain ⟨j,B,h⟩:=av h;obtain ⟨k,u⟩:=G4 B;have F:wrap64 (m - 1)=(j:Int):=by rw [<-k,GE];unfold wrap64;rfl
  have t:0<=wrap64 (m - 1):=by omega
  have z:wrap64 (m - 1)<12:=by omega
  have G:(wrap64 (m - 1)).toNat=j:=by omega
  cases l with
  | false=>
   go_enter Tryz.func283,Tryz.ntmps283
   go_wp2_with (go_at_call 303;refine call.mono ?_)
   rintro x d ⟨rfl,b1⟩;have k0:d.cell? ⟨4,j,none⟩=some (.int .i64 r):=y4 (f.below b1) h
   go_wp2
   go_ret
   exact ⟨_,rfl,by simp [VR,VRs],Below.fr b1⟩
  | true=>
   have D:¬m=2:=by simpa using c
   go_enter Tryz.func283,Tryz.ntmps283
   go_wp2_with (go_at_call 303;refine call.mono ?_)
   rintro x d ⟨rfl,b1⟩;have k0:d.cell? ⟨4,j,none⟩=some (.int .i64 r):=y4 (f.below b1) h
   go_wp2
   go_ret
   exact ⟨_,rfl,by simp [VR,VRs],Below.fr b1⟩
end Go.Sh
