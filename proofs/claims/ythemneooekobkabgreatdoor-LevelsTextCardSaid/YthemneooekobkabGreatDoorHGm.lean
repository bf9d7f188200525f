
/- months.length looks into a package-level table: its walk, by hand.
   (Numbers of functions and variables are filled in by hg.sh.)
   Conditions: none. -/
import Derived.Test.YthemneooekobkabGreatDoorHGs
set_option linter.unusedVariables false
set_option linter.unusedSimpArgs false
set_option maxRecDepth 100000
namespace Go.Sh
open Go.Abs Go.Proofs Go.RowKit
theorem zh {w:World} (f:GL ie w) {i:Nat} {z:Int} (h:vS[i]?=some z):w.cell? ⟨4,i,none⟩=some (.int .i64 z):=by
 obtain ⟨L,⟨v,c,n,p,q,g,u,m,b,o,⟨c4,l,k,r,rfl,a⟩,s,e,t,j⟩,d,_⟩:=f;have:=d (4,.cells c g (0,0)) (by simp);have a:=e i z h;rw [da] at a;rw [bw this,a]
set_option maxHeartbeats 4000000 in
theorem uw (n:Nat) (hc:∀(x:Int) (r:Bool×Int),kN n x=some r->lq Tryz.prog 303 [.i .i64 x] (.tp [.b r.1,.i .i64 r.2])) (a m:Int) (r:Int) (h:eJ n a m=some r):
  lq Tryz.prog 283 [.i .i64 a,.i .i64 m] (.i .i64 r):=by
 intro w q k hx;simp only [VRs,VR] at hx;obtain ⟨_,_,p,rfl,_,_,rfl,rfl,rfl⟩:=hx;have:q=#[.int .i64 a,.int .i64 m]:=by apply lG;simpa using p
 subst this;clear p;simp only [eJ] at h;obtain ⟨e,u,h⟩:=av h;obtain ⟨l,g⟩:=e;have call:Calls Tryz.prog 303 #[.int .i64 a] w λx w'=>x=.returned (.tuple #[.bool l,.int .i64 g])/\Below w.heap.size w w':=
  (hc a (l,g) u w _ k (by simp [VRs,VR])).mono λx w' ⟨y,t,o,z⟩=>by
   simp only [VR,VRs] at o;obtain ⟨F,rfl,_,_,A,rfl,_,_,rfl,rfl,rfl⟩:=o;refine ⟨?_,z.below⟩;rw [t];congr 2;apply lG;simpa using A
 have mixed:Tryz.prog.follows .mixedOrders=true:=by kernel_rfl
 cases c:(l&&(m==2)) with
 | true=>
  simp only [c,ah,au] at h;subst h;simp only [aA,bI] at c;obtain ⟨rfl,rfl⟩:=c
  go_enter Tryz.func283,Tryz.ntmps283
  go_wp2_with (go_at_call 303;refine call.mono ?_)
  rintro x d ⟨rfl,b1⟩
  go_wp2
  go_ret
  exact ⟨_,rfl,by simp [VR,VRs],Below.fr b1⟩
 | false=>
  simp only [c,af] at h;obtain ⟨j,B,h⟩:=av h;obtain ⟨f,C⟩:=Il B;have D:wrap64 (m - 1)=(j:Int):=by rw [<-f,HO];unfold wrap64;rfl
  have v:0<=wrap64 (m - 1):=by omega
  have s:wrap64 (m - 1)<12:=by omega
  have G:(wrap64 (m - 1)).toNat=j:=by omega
  cases l with
  | false=>
   go_enter Tryz.func283,Tryz.ntmps283
   go_wp2_with (go_at_call 303;refine call.mono ?_)
   rintro x d ⟨rfl,b1⟩;have k0:d.cell? ⟨4,j,none⟩=some (.int .i64 r):=zh (k.below b1) h
   go_wp2
   go_ret
   exact ⟨_,rfl,by simp [VR,VRs],Below.fr b1⟩
  | true=>
   have E:¬m=2:=by simpa using c
   go_enter Tryz.func283,Tryz.ntmps283
   go_wp2_with (go_at_call 303;refine call.mono ?_)
   rintro x d ⟨rfl,b1⟩;have k0:d.cell? ⟨4,j,none⟩=some (.int .i64 r):=zh (k.below b1) h
   go_wp2
   go_ret
   exact ⟨_,rfl,by simp [VR,VRs],Below.fr b1⟩
end Go.Sh
