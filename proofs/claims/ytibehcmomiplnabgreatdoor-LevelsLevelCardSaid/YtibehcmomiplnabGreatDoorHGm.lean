
import Derived.Test.YtibehcmomiplnabGreatDoorHGs
set_option linter.unusedSimpArgs false
set_option linter.unusedVariables false
set_option linter.defProp false
set_option maxRecDepth 100000
namespace Go.Sh
open Go.Abs Go.Proofs Go.RowKit
def CW{w:World}(d:GL iI w){i:Nat}{z:Int}(h:yY[i]?=some z):w.cell? ⟨4,i,none⟩=some (.int .i64 z):=by
 obtain⟨L,⟨s,e,n,c3,q,c,k,r,b,o,⟨c4,u,j,m,rfl,a⟩,p,g,t,l⟩,f,_⟩:=d;have:=f (4,.cells e c (0,0)) (by simp);have a:=g i z h;rw[dw]at a;rw[bB this,a]
set_option maxHeartbeats 4000000 in
def wG (n:Nat) (hc:∀(x:Int) (r:Bool×Int),lX n x=some r->oP Tryz.prog 273 [.i .i64 x] (.tp [.b r.1,.i .i64 r.2])) (a m:Int) (r:Int) (h:fj n a m=some r):
  oP Tryz.prog 229 [.i .i64 a,.i .i64 m] (.i .i64 r):=by
 intro w q k hx;simp only [VRs,VR] at hx;obtain ⟨_,_,p,rfl,_,_,rfl,rfl,rfl⟩:=hx;have:q=#[.int .i64 a,.int .i64 m]:=by apply mO;simpa using p
 subst this;clear p;simp only [fj] at h;obtain ⟨e,z,h⟩:=ax h;obtain ⟨l,g⟩:=e;have call:Calls Tryz.prog 273 #[.int .i64 a] w λx w'=>x=.returned (.tuple #[.bool l,.int .i64 g])/\Below w.heap.size w w':=
  (hc a (l,g) z w _ k (by simp [VRs,VR])).mono λx w' ⟨y,A,o,u⟩=>by
   simp only [VR,VRs] at o;obtain ⟨F,rfl,_,_,v,rfl,_,_,rfl,rfl,rfl⟩:=o;refine ⟨?_,u.below⟩;rw [A];congr 2;apply mO;simpa using v
 have mixed:Tryz.prog.follows .mixedOrders=true:=by kernel_rfl
 cases c:(l&&(m==2)) with
 | true=>
  simp only [c,ah,aw] at h;subst h;simp only [aD,bA] at c;obtain ⟨rfl,rfl⟩:=c
  go_enter Tryz.func229,Tryz.ntmps229
  go_wp2_with (go_at_call 273;refine call.mono ?_)
  rintro x d ⟨rfl,b1⟩
  go_wp2
  go_ret
  exact ⟨_,rfl,by simp [VR,VRs],Below.fr b1⟩
 | false=>
  simp only [c,af] at h;obtain ⟨j,C,h⟩:=ax h;obtain ⟨f,s⟩:=LR C;have G:wrap64 (m - 1)=(j:Int):=by rw [<-f,LE];unfold wrap64;rfl
  have t:0<=wrap64 (m - 1):=by omega
  have B:wrap64 (m - 1)<12:=by omega
  have E:(wrap64 (m - 1)).toNat=j:=by omega
  cases l with
  | false=>
   go_enter Tryz.func229,Tryz.ntmps229
   go_wp2_with (go_at_call 273;refine call.mono ?_)
   rintro x d ⟨rfl,b1⟩;have k0:d.cell? ⟨4,j,none⟩=some (.int .i64 r):=CW (k.below b1) h
   go_wp2
   go_ret
   exact ⟨_,rfl,by simp [VR,VRs],Below.fr b1⟩
  | true=>
   have D:¬m=2:=by simpa using c
   go_enter Tryz.func229,Tryz.ntmps229
   go_wp2_with (go_at_call 273;refine call.mono ?_)
   rintro x d ⟨rfl,b1⟩;have k0:d.cell? ⟨4,j,none⟩=some (.int .i64 r):=CW (k.below b1) h
   go_wp2
   go_ret
   exact ⟨_,rfl,by simp [VR,VRs],Below.fr b1⟩
end Go.Sh
