/- months.length looks into a package-level table: its walk, by hand.
   (Numbers of functions and variables are filled in by hg.sh.)
   Conditions: none. -/
import Derived.Test.YtpkdacjndoiabaaGreatDoorHGs
set_option linter.unusedVariables false
set_option linter.unusedSimpArgs false
set_option maxRecDepth 100000
namespace Go.Sh
open Go.Abs Go.Proofs Go.RowKit
theorem yJ {w:World} (hg:GL iH w) {i:Nat} {z:Int} (h:vf[i]?=some z):w.cell? ⟨2,i,none⟩=some (.int .i64 z):=by
 obtain ⟨L,⟨c0,c1,c2,c3,t0,t1,t2,t3,b,o,⟨c4,t4,te,pe,rfl,h4⟩,h0,h1,h2,h3⟩,hL,_⟩:=hg
 have:=hL (2,.cells c1 t1 (0,0)) (by simp)
 have h4:=h1 i z h
 rw [cY] at h4
 rw [bH this,h4]
set_option maxHeartbeats 4000000 in
theorem sL (n:Nat) (hc:∀(x:Int) (r:Bool×Int),jZ n x=some r->ks Tryz.prog 245 [.i .i64 x] (.tp [.b r.1,.i .i64 r.2])) (a m:Int) (r:Int) (h:dX n a m=some r):
  ks Tryz.prog 214 [.i .i64 a,.i .i64 m] (.i .i64 r):=by
 intro w xs hg hx
 simp only [VRs,VR] at hx
 obtain ⟨_,_,e1,rfl,_,_,rfl,rfl,rfl⟩:=hx
 have:xs=#[.int .i64 a,.int .i64 m]:=by apply lP;simpa using e1
 subst this
 clear e1
 simp only [dX] at h
 obtain ⟨e,he,h⟩:=av h
 obtain ⟨l,g⟩:=e
 have call:Calls Tryz.prog 245 #[.int .i64 a] w λx w'=>x=.returned (.tuple #[.bool l,.int .i64 g])/\Below w.heap.size w w':=
  (hc a (l,g) he w _ hg (by simp [VRs,VR])).mono λx w' ⟨y,q1,q2,q3⟩=>by
   simp only [VR,VRs] at q2
   obtain ⟨cs,rfl,_,_,q4,rfl,_,_,rfl,rfl,rfl⟩:=q2
   refine ⟨?_,q3.below⟩
   rw [q1]
   congr 2
   apply lP;simpa using q4
 have mixed:Tryz.prog.follows .mixedOrders=true:=by kernel_rfl
 cases hb:(l&&(m==2)) with
 | true=>
  simp only [hb,aj,aq] at h
  subst h
  simp only [az,bB] at hb
  obtain ⟨rfl,rfl⟩:=hb
  go_enter Tryz.func214,Tryz.ntmps214
  go_wp2_with (go_at_call 245;refine call.mono ?_)
  rintro x w1 ⟨rfl,b1⟩
  go_wp2
  go_ret
  exact ⟨_,rfl,by simp [VR,VRs],Below.fr b1⟩
 | false=>
  simp only [hb,af] at h
  obtain ⟨j,hj,h⟩:=av h
  obtain ⟨hj0,hj1⟩:=EQ hj
  have hw:wrap64 (m - 1)=(j:Int):=by rw [<-hj0,GA];unfold wrap64;rfl
  have hi0:0<=wrap64 (m - 1):=by omega
  have hi1:wrap64 (m - 1)<12:=by omega
  have hn:(wrap64 (m - 1)).toNat=j:=by omega
  cases l with
  | false=>
   go_enter Tryz.func214,Tryz.ntmps214
   go_wp2_with (go_at_call 245;refine call.mono ?_)
   rintro x w1 ⟨rfl,b1⟩
   have k0:w1.cell? ⟨2,j,none⟩=some (.int .i64 r):=yJ (hg.below b1) h
   go_wp2
   go_ret
   exact ⟨_,rfl,by simp [VR,VRs],Below.fr b1⟩
  | true=>
   have hm:¬m=2:=by simpa using hb
   go_enter Tryz.func214,Tryz.ntmps214
   go_wp2_with (go_at_call 245;refine call.mono ?_)
   rintro x w1 ⟨rfl,b1⟩
   have k0:w1.cell? ⟨2,j,none⟩=some (.int .i64 r):=yJ (hg.below b1) h
   go_wp2
   go_ret
   exact ⟨_,rfl,by simp [VR,VRs],Below.fr b1⟩
end Go.Sh
