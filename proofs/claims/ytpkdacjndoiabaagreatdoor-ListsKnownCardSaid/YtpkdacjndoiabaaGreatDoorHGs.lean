/- seasons.Months looks into a package-level table: its walk, by hand.
   (FMONTHS, FCHECK: the seat's numbers of the functions; Tryz its alias; @T@ the number of the struct.)
   Conditions: none. -/
import Derived.Test.YtpkdacjndoiabaaGreatDoorShL
import Derived.Test.YtpkdacjndoiabaaGreatDoorProg
import Derived.WalkKit
import Derived.BigCall
import Derived.OwnWalk
import Derived.StillTactics
import Derived.RegionTactic
set_option linter.unusedVariables false
set_option linter.unusedSimpArgs false
set_option maxRecDepth 100000
namespace Go.Sh
open Go.Abs Go.Proofs Go.RowKit
theorem FY {w:World} (hg:GL iH w) {i:Nat} {z:Int} (h:rH[i]?=some z):w.cell? ⟨1,i,none⟩=some (.int .i64 z):=by
 obtain ⟨L,⟨c0,c1,c2,c3,t0,t1,t2,t3,b,o,⟨c4,t4,te,pe,rfl,h4⟩,h0,h1,h2,h3⟩,hL,_⟩:=hg
 have:=hL (1,.cells c0 t0 (0,0)) (by simp)
 have h4:=h0 i z h
 rw [cY] at h4
 rw [bH this,h4]
theorem EQ {n:Nat} {i:Int} {j:Nat} (h:ix n i=some j):i=(j:Int)/\j<n:=by
 unfold ix at h
 split at h
 ·rename_i hb
  simp only [aq] at h
  omega
 ·cases h
theorem DU {j:Nat} {q:Int×Int} (h:nj[j]?=some q):rH[j*2]?=some q.1/\rH[j*2+1]?=some q.2:=by
 have hj:j<21:=by
  rcases aG j 21 with h' | h'
  ·exact h'
  ·rw [gU (by simpa [nj] using h')] at h;cases h
 have key:∀j:Fin 21,∃q,nj[j.1]?=some q/\rH[j.1*2]?=some q.1/\rH[j.1*2+1]?=some q.2:=by
  have:((List.range 21).all λj=>match nj[j]? with | some q=>rH[j*2]?==some q.1&&rH[j*2+1]?==some q.2 | none=>false)=true:=by decide
  intro ⟨j,hj⟩
  have h1:=(dF.1 this) j (by simpa using hj)
  simp only
  split at h1
  ·rename_i q hq
   simp only [az,bB] at h1
   exact ⟨q,hq,h1⟩
  ·cases h1
 obtain ⟨q',h1,h2⟩:=key ⟨j,hj⟩
 simp only at h1 h2
 rw [h] at h1;cases h1
 exact h2
set_option maxHeartbeats 4000000 in
theorem sH (n:Nat) (hc:∀(x:Int) (r:Int),dr n x=some r->ks Tryz.prog 165 [.i .i64 x] (.i .i64 r)) (a:Int) (r:Int×Int×Int) (h:fc n a=some r):
  ks Tryz.prog 198 [.i .i64 a] (.tp [.i .i64 r.1,.i .i64 r.2.1,.i .i64 r.2.2]):=by
 intro w xs hg hx
 simp only [VRs,VR] at hx
 obtain ⟨_,_,e1,rfl,rfl⟩:=hx
 have:xs=#[.int .i64 a]:=by apply lP;simpa using e1
 subst this
 clear e1
 simp only [fc] at h
 obtain ⟨e,he,h⟩:=av h
 have call:∀w1:World,GL iH w1->Calls Tryz.prog 165 #[.int .i64 a] w1 λx w'=>x=.returned (.int .i64 e)/\Below w1.heap.size w1 w':=λw1 hg1=>
  (hc a e he w1 _ hg1 (by simp [VRs,VR])).mono λx w' ⟨y,q1,q2,q3⟩=>by
   simp only [VR] at q2
   exact ⟨by rw [q1,q2],q3.below⟩
 cases hb:(e != 0) with
 | true=>
  rw [hb] at h
  simp only [aj,aq] at h
  subst h
  have hne:¬e=0:=by simpa using hb
  go_enter Tryz.func198,Tryz.ntmps198
  go_wp2_with (go_at_call 165;refine (call _ hg).mono ?_)
  rintro x w1 ⟨rfl,b1⟩
  go_wp2
  go_ret3
  exact ⟨_,rfl,by simp [VR,VRs],Below.fr b1⟩
 | false=>
  rw [hb] at h
  simp only [af] at h
  obtain ⟨j,hj,h⟩:=av h
  obtain ⟨q,hq,h⟩:=av h
  simp only [aq] at h
  subst h
  have he0:e=0:=by simpa using hb
  subst he0
  go_enter Tryz.func198,Tryz.ntmps198
  go_wp2_with (go_at_call 165;refine (call _ hg).mono ?_)
  rintro x w1 ⟨rfl,b1⟩
  have hg1:GL iH w1:=hg.below b1
  obtain ⟨hj0,hj1⟩:=EQ hj
  have hq2:=DU hq
  have hw:wrap64 (a - 21)=(j:Int):=by rw [<-hj0,GA];unfold wrap64;rfl
  have hi0:0<=wrap64 (a - 21):=by omega
  have hi1:wrap64 (a - 21)<21:=by omega
  have hn:(wrap64 (a - 21)).toNat=j:=by omega
  have k0:w1.cell? ⟨1,j*2,none⟩=some (.int .i64 q.1):=FY hg1 hq2.1
  have k1:w1.cell? ⟨1,j*2+1,none⟩=some (.int .i64 q.2):=FY hg1 hq2.2
  have mixed:Tryz.prog.follows .mixedOrders=true:=by kernel_rfl
  go_wp2_with fail
  go_region
  go_wp2
  go_ret3
  refine ⟨_,rfl,by simp [VR,VRs],Below.fr ?_⟩
  exact ((b1.alloc b1.size _).drew)
end Go.Sh
