
/- months.length looks into a package-level table: its walk, by hand.
   (Numbers of functions and variables are filled in by hg.sh.)
   Conditions: none. -/
import Derived.Test.YtfiponokimbeeaaGreatDoorHGs
set_option linter.unusedVariables false
set_option linter.unusedSimpArgs false
set_option maxRecDepth 100000
namespace Go.Sh
open Go.Abs Go.Proofs Go.RowKit
theorem zN {w:World} (g:GL ie w) {i:Nat} {z:Int} (h:vH[i]?=some z):w.cell? ⟨3,i,none⟩=some (.int .i64 z):=by
 obtain ⟨L,⟨r,f,p,u,t,c,l,s,b,o,⟨c4,m,q,j,rfl,a⟩,n,d,v,k⟩,e,_⟩:=g;have:=e (3,.cells f c (0,0)) (by simp);have a:=d i z h;rw [dq] at a;rw [bp this,a]
set_option maxHeartbeats 4000000 in
theorem tg (n:Nat) (hc:∀(x:Int) (r:Bool×Int),kH n x=some r->lk Tryz.prog 248 [.i .i64 x] (.tp [.b r.1,.i .i64 r.2])) (a m:Int) (r:Int) (h:eD n a m=some r):
  lk Tryz.prog 188 [.i .i64 a,.i .i64 m] (.i .i64 r):=by
 intro w t k hx;simp only [VRs,VR] at hx;obtain ⟨_,_,p,rfl,_,_,rfl,rfl,rfl⟩:=hx;have:t=#[.int .i64 a,.int .i64 m]:=by apply ll;simpa using p
 subst this;clear p;simp only [eD] at h;obtain ⟨e,C,h⟩:=av h;obtain ⟨l,g⟩:=e;have call:Calls Tryz.prog 248 #[.int .i64 a] w λx w'=>x=.returned (.tuple #[.bool l,.int .i64 g])/\Below w.heap.size w w':=
  (hc a (l,g) C w _ k (by simp [VRs,VR])).mono λx w' ⟨y,z,o,v⟩=>by
   simp only [VR,VRs] at o;obtain ⟨E,rfl,_,_,A,rfl,_,_,rfl,rfl,rfl⟩:=o;refine ⟨?_,v.below⟩;rw [z];congr 2;apply ll;simpa using A
 have mixed:Tryz.prog.follows .mixedOrders=true:=by kernel_rfl
 cases c:(l&&(m==2)) with
 | true=>
  simp only [c,ah,au] at h;subst h;simp only [az,bI] at c;obtain ⟨rfl,rfl⟩:=c
  go_enter Tryz.func188,Tryz.ntmps188
  go_wp2_with (go_at_call 248;refine call.mono ?_)
  rintro x d ⟨rfl,b1⟩
  go_wp2
  go_ret
  exact ⟨_,rfl,by simp [VR,VRs],Below.fr b1⟩
 | false=>
  simp only [c,af] at h;obtain ⟨j,q,h⟩:=av h;obtain ⟨f,B⟩:=Gj q;have D:wrap64 (m - 1)=(j:Int):=by rw [<-f,Gw];unfold wrap64;rfl
  have u:0<=wrap64 (m - 1):=by omega
  have s:wrap64 (m - 1)<12:=by omega
  have G:(wrap64 (m - 1)).toNat=j:=by omega
  cases l with
  | false=>
   go_enter Tryz.func188,Tryz.ntmps188
   go_wp2_with (go_at_call 248;refine call.mono ?_)
   rintro x d ⟨rfl,b1⟩;have k0:d.cell? ⟨3,j,none⟩=some (.int .i64 r):=zN (k.below b1) h
   go_wp2
   go_ret
   exact ⟨_,rfl,by simp [VR,VRs],Below.fr b1⟩
  | true=>
   have F:¬m=2:=by simpa using c
   go_enter Tryz.func188,Tryz.ntmps188
   go_wp2_with (go_at_call 248;refine call.mono ?_)
   rintro x d ⟨rfl,b1⟩;have k0:d.cell? ⟨3,j,none⟩=some (.int .i64 r):=zN (k.below b1) h
   go_wp2
   go_ret
   exact ⟨_,rfl,by simp [VR,VRs],Below.fr b1⟩
end Go.Sh
