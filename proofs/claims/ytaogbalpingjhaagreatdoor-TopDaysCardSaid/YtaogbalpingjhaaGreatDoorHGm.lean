
/- months.length looks into a package-level table: its walk, by hand.
   (Numbers of functions and variables are filled in by hg.sh.)
   Conditions: none. -/
import Derived.Test.YtaogbalpingjhaaGreatDoorHGs
set_option linter.unusedVariables false
set_option linter.unusedSimpArgs false
set_option maxRecDepth 100000
namespace Go.Sh
open Go.Abs Go.Proofs Go.RowKit
theorem sE {w:World} (e:GL dH w) {i:Nat} {z:Int} (h:pT[i]?=some z):w.cell? ⟨0,i,none⟩=some (.int .i64 z):=by
 obtain ⟨L,⟨u,g,r,m,l,c,s,q,b,o,⟨c4,p,v,k,rfl,a⟩,n,f,t,j⟩,d,_⟩:=e;have:=d (0,.cells g c (0,0)) (by simp);have a:=f i z h;rw [bM] at a;rw [aO this,a]
set_option maxHeartbeats 4000000 in
theorem nO (n:Nat) (hc:∀(x:Int) (r:Bool×Int),fX n x=some r->f7 Tryz.prog 123 [.i .i64 x] (.tp [.b r.1,.i .i64 r.2])) (a m:Int) (r:Int) (h:cj n a m=some r):
  f7 Tryz.prog 60 [.i .i64 a,.i .i64 m] (.i .i64 r):=by
 intro w A o s;simp only [VRs,VR] at s;obtain ⟨_,_,p,rfl,_,_,rfl,rfl,rfl⟩:=s;have:A=#[.int .i64 a,.int .i64 m]:=by apply gz;simpa using p
 subst this;clear p;simp only [cj] at h;obtain ⟨e,z,h⟩:=ah h;obtain ⟨l,g⟩:=e;have call:Calls Tryz.prog 123 #[.int .i64 a] w λx w'=>x=.returned (.tuple #[.bool l,.int .i64 g])/\Below w.heap.size w w':=
  (hc a (l,g) z w _ o (by simp [VRs,VR])).mono λx w' ⟨y,C,q,t⟩=>by
   simp only [VR,VRs] at q;obtain ⟨G,rfl,_,_,v,rfl,_,_,rfl,rfl,rfl⟩:=q;refine ⟨?_,t.below⟩;rw [C];congr 2;apply gz;simpa using v
 have mixed:Tryz.prog.follows .mixedOrders=true:=by kernel_rfl
 cases d:(l&&(m==2)) with
 | true=>
  simp only [d,ar,ae] at h;subst h;simp only [av,bu] at d;obtain ⟨rfl,rfl⟩:=d
  go_enter Tryz.func60,Tryz.ntmps60
  go_wp2_with (go_at_call 123;refine call.mono ?_)
  rintro x f ⟨rfl,c⟩
  go_wp2
  go_ret
  exact ⟨_,rfl,by simp [VR,VRs],Below.fr c⟩
 | false=>
  simp only [d,af] at h;obtain ⟨j,E,h⟩:=ah h;obtain ⟨k,u⟩:=zb E;have F:wrap64 (m - 1)=(j:Int):=by rw [<-k,zk];unfold wrap64;rfl
  have D:0<=wrap64 (m - 1):=by omega
  have B:wrap64 (m - 1)<12:=by omega
  have I:(wrap64 (m - 1)).toNat=j:=by omega
  cases l with
  | false=>
   go_enter Tryz.func60,Tryz.ntmps60
   go_wp2_with (go_at_call 123;refine call.mono ?_)
   rintro x f ⟨rfl,c⟩;have k0:f.cell? ⟨0,j,none⟩=some (.int .i64 r):=sE (o.below c) h
   go_wp2
   go_ret
   exact ⟨_,rfl,by simp [VR,VRs],Below.fr c⟩
  | true=>
   have H:¬m=2:=by simpa using d
   go_enter Tryz.func60,Tryz.ntmps60
   go_wp2_with (go_at_call 123;refine call.mono ?_)
   rintro x f ⟨rfl,c⟩;have k0:f.cell? ⟨0,j,none⟩=some (.int .i64 r):=sE (o.below c) h
   go_wp2
   go_ret
   exact ⟨_,rfl,by simp [VR,VRs],Below.fr c⟩
end Go.Sh
