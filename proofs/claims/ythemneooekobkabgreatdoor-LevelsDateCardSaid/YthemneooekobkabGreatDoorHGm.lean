
/- months.length looks into a package-level table: its walk, by hand.
   (Numbers of functions and variables are filled in by hg.sh.)
   Conditions: none. -/
import Derived.Test.YthemneooekobkabGreatDoorHGs
set_option linter.unusedVariables false
set_option linter.unusedSimpArgs false
set_option maxRecDepth 100000
namespace Go.Sh
open Go.Abs Go.Proofs Go.RowKit
theorem Ad {w:World} (e:GL gY w) {i:Nat} {z:Int} (h:wB[i]?=some z):w.cell? ⟨4,i,none⟩=some (.int .i64 z):=by
 obtain ⟨L,⟨l,f,q,s,k,d,n,t,b,o,⟨r,m,j,p,rfl,a⟩,x,g,v,u⟩,c,_⟩:=e;have:=c (4,.cells f d (0,0)) (by simp);have a:=g i z h;rw [dk] at a;rw [bv this,a]
set_option maxHeartbeats 4000000 in
theorem uI (n:Nat) (hc:∀(x:Int) (r:Bool×Int),ku n x=some r->k7 Tryz.prog 303 [.i .i64 x] (.tp [.b r.1,.i .i64 r.2])) (a m:Int) (r:Int) (h:eK n a m=some r):
  k7 Tryz.prog 283 [.i .i64 a,.i .i64 m] (.i .i64 r):=by
 intro w s f hx;simp only [VRs,VR] at hx;obtain ⟨_,_,p,rfl,_,_,rfl,rfl,rfl⟩:=hx;have:s=#[.int .i64 a,.int .i64 m]:=by apply lh;simpa using p
 subst this;clear p;simp only [eK] at h;obtain ⟨e,t,h⟩:=aw h;obtain ⟨l,g⟩:=e;have call:Calls Tryz.prog 303 #[.int .i64 a] w λx w'=>x=.returned (.tuple #[.bool l,.int .i64 g])/\Below w.heap.size w w':=
  (hc a (l,g) t w _ f (by simp [VRs,VR])).mono λx w' ⟨y,B,o,q⟩=>by
   simp only [VR,VRs] at o;obtain ⟨G,rfl,_,_,z,rfl,_,_,rfl,rfl,rfl⟩:=o;refine ⟨?_,q.below⟩;rw [B];congr 2;apply lh;simpa using z
 have mixed:Tryz.prog.follows .mixedOrders=true:=by kernel_rfl
 cases c:(l&&(m==2)) with
 | true=>
  simp only [c,ah,av] at h;subst h;simp only [aA,bu] at c;obtain ⟨rfl,rfl⟩:=c
  go_enter Tryz.func283,Tryz.ntmps283
  go_wp2_with (go_at_call 303;refine call.mono ?_)
  rintro x d ⟨rfl,b1⟩
  go_wp2
  go_ret
  exact ⟨_,rfl,by simp [VR,VRs],Below.fr b1⟩
 | false=>
  simp only [c,af] at h;obtain ⟨j,v,h⟩:=aw h;obtain ⟨k,A⟩:=GW v;have D:wrap64 (m - 1)=(j:Int):=by rw [<-k,Ii];unfold wrap64;rfl
  have u:0<=wrap64 (m - 1):=by omega
  have C:wrap64 (m - 1)<12:=by omega
  have F:(wrap64 (m - 1)).toNat=j:=by omega
  cases l with
  | false=>
   go_enter Tryz.func283,Tryz.ntmps283
   go_wp2_with (go_at_call 303;refine call.mono ?_)
   rintro x d ⟨rfl,b1⟩;have k0:d.cell? ⟨4,j,none⟩=some (.int .i64 r):=Ad (f.below b1) h
   go_wp2
   go_ret
   exact ⟨_,rfl,by simp [VR,VRs],Below.fr b1⟩
  | true=>
   have E:¬m=2:=by simpa using c
   go_enter Tryz.func283,Tryz.ntmps283
   go_wp2_with (go_at_call 303;refine call.mono ?_)
   rintro x d ⟨rfl,b1⟩;have k0:d.cell? ⟨4,j,none⟩=some (.int .i64 r):=Ad (f.below b1) h
   go_wp2
   go_ret
   exact ⟨_,rfl,by simp [VR,VRs],Below.fr b1⟩
end Go.Sh
