
/- months.length looks into a package-level table: its walk, by hand.
   (Numbers of functions and variables are filled in by hg.sh.)
   Conditions: none. -/
import Derived.Test.YthemneooekobkaaGreatDoorHGs
set_option linter.unusedVariables false
set_option linter.unusedSimpArgs false
set_option maxRecDepth 100000
namespace Go.Sh
open Go.Abs Go.Proofs Go.RowKit
theorem zR {w:World} (g:GL gS w) {i:Nat} {z:Int} (h:wI[i]?=some z):w.cell? ⟨6,i,none⟩=some (.int .i64 z):=by
 obtain ⟨L,⟨n,c,x,m,q,f,j,k,b,o,⟨t,s,v,p,rfl,a⟩,r,d,l,u⟩,e,_⟩:=g;have:=e (6,.cells c f (0,0)) (by simp);have a:=d i z h;rw [dc] at a;rw [bi this,a]
set_option maxHeartbeats 4000000 in
theorem va (n:Nat) (hc:∀(x:Int) (r:Bool×Int),kV n x=some r->nB Tryz.prog 292 [.i .i64 x] (.tp [.b r.1,.i .i64 r.2])) (a m:Int) (r:Int) (h:eP n a m=some r):
  nB Tryz.prog 271 [.i .i64 a,.i .i64 m] (.i .i64 r):=by
 intro w z k hx;simp only [VRs,VR] at hx;obtain ⟨_,_,p,rfl,_,_,rfl,rfl,rfl⟩:=hx;have:z=#[.int .i64 a,.int .i64 m]:=by apply lP;simpa using p
 subst this;clear p;simp only [eP] at h;obtain ⟨e,u,h⟩:=ax h;obtain ⟨l,g⟩:=e;have call:Calls Tryz.prog 292 #[.int .i64 a] w λx w'=>x=.returned (.tuple #[.bool l,.int .i64 g])/\Below w.heap.size w w':=
  (hc a (l,g) u w _ k (by simp [VRs,VR])).mono λx w' ⟨y,t,o,v⟩=>by
   simp only [VR,VRs] at o;obtain ⟨G,rfl,_,_,q,rfl,_,_,rfl,rfl,rfl⟩:=o;refine ⟨?_,v.below⟩;rw [t];congr 2;apply lP;simpa using q
 have mixed:Tryz.prog.follows .mixedOrders=true:=by kernel_rfl
 cases c:(l&&(m==2)) with
 | true=>
  simp only [c,ah,av] at h;subst h;simp only [az,bp] at c;obtain ⟨rfl,rfl⟩:=c
  go_enter Tryz.func271,Tryz.ntmps271
  go_wp2_with (go_at_call 292;refine call.mono ?_)
  rintro x d ⟨rfl,b1⟩
  go_wp2
  go_ret
  exact ⟨_,rfl,by simp [VR,VRs],Below.fr b1⟩
 | false=>
  simp only [c,af] at h;obtain ⟨j,A,h⟩:=ax h;obtain ⟨f,s⟩:=IY A;have E:wrap64 (m - 1)=(j:Int):=by rw [<-f,HS];unfold wrap64;rfl
  have B:0<=wrap64 (m - 1):=by omega
  have C:wrap64 (m - 1)<12:=by omega
  have F:(wrap64 (m - 1)).toNat=j:=by omega
  cases l with
  | false=>
   go_enter Tryz.func271,Tryz.ntmps271
   go_wp2_with (go_at_call 292;refine call.mono ?_)
   rintro x d ⟨rfl,b1⟩;have k0:d.cell? ⟨6,j,none⟩=some (.int .i64 r):=zR (k.below b1) h
   go_wp2
   go_ret
   exact ⟨_,rfl,by simp [VR,VRs],Below.fr b1⟩
  | true=>
   have D:¬m=2:=by simpa using c
   go_enter Tryz.func271,Tryz.ntmps271
   go_wp2_with (go_at_call 292;refine call.mono ?_)
   rintro x d ⟨rfl,b1⟩;have k0:d.cell? ⟨6,j,none⟩=some (.int .i64 r):=zR (k.below b1) h
   go_wp2
   go_ret
   exact ⟨_,rfl,by simp [VR,VRs],Below.fr b1⟩
end Go.Sh
