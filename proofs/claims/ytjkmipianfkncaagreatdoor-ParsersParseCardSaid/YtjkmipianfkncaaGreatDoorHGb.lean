
import Derived.Test.YtjkmipianfkncaaGreatDoorHGm
set_option linter.unusedVariables false
set_option linter.unusedSimpArgs false
set_option maxRecDepth 100000
set_option linter.defProp false
namespace Go.Sh
open Go.Abs Go.Proofs Go.RowKit
def NT{w:World}(k:GL jo w):∃b o,(∀w',Below w.heap.size w w'->w'.cell? ⟨7,0,none⟩=some (.slice (some ⟨b,o,none⟩) 3 3))/\
  ∀i z,F6[i]?=some z->∀w',Below w.heap.size w w'->w'.cell? ⟨b,o+i,none⟩=some (.int .i64 z):=by
 obtain⟨L,⟨v,s,f,c3,B,t,m,n,b,o,⟨A,E,C,q,rfl,D⟩,u,y,l,g⟩,d,_⟩:=k;have k2:=d (7,.cells f m (0,0)) (by simp);have e:=d (b,.cells c3 n (0,0)) (by simp);have lt:∀{r:Nat} {x:Obj},w.heap[r]?=some x->r<w.heap.size:=by
  intro r x h;rcases aF r w.heap.size with a | a
  ·exact a
  ·rw[xj a]at h;cases h
 refine⟨b,o,λw' c=>?_,λi z j w' c=>?_⟩
 ·rw[c.cell (p:=⟨_,_,none⟩) (lt k2),bC k2,l]
 ·rw[c.cell (p:=⟨_,_,none⟩) (lt e),bC e,g i z j]
def rB{w w':World}{c:Array Value}{e:TypeId}(a:Below (w.alloc (.cells c e)).heap.size (w.alloc (.cells c e)) w')(j:Nat):w'.cell? ⟨w.heap.size,j,none⟩=c[j]?:=by
 have h:w'.heap[w.heap.size]?=some (.cells c e (0,0)):=by
  rw[a.block _ (by show w.heap.size<(w.heap.push _).size;simp)];exact lp w _
 exact bC h
set_option maxHeartbeats 8000000 in
def tO(n:Nat)(hc:∀(x y:Int) (r:Int×Int),lg n x y=some r->kL Tryz.prog 228 [.i .i64 x,.i .i64 y] (.tp [.i .i64 r.1,.i .i64 r.2]))(a:Int)(r:Int)(h:fa n a=some r):
  kL Tryz.prog 243 [.i .i64 a] (.i .i64 r):=by
 intro w J k hx;simp only[VRs,VR]at hx;obtain⟨_,_,p,rfl,rfl⟩:=hx;have:J=#[.int .i64 a]:=by apply mg;simpa using p
 subst this;clear p;simp only[fa]at h;obtain⟨⟨x,ex⟩,hx,h⟩:=av h;obtain⟨⟨y,N⟩,hy,h⟩:=av h;obtain⟨⟨z,W⟩,u,h⟩:=av h;simp only[ar]at h;have wr:∀v,IntKind.wrap .i64 v=wrap64 v:=λv=>by rw[EQ];unfold wrap64;rfl
 simp only[wr]at hx hy u h;have call:∀{d q e:Int},lg n (wrap64 (a - 1)) d=some (q,e)->∀c:World,GL jo c->Calls Tryz.prog 228 #[.int .i64 (wrap64 (a - 1)),.int .i64 d] c λx w'=>x=.returned (.tuple #[.int .i64 q,.int .i64 e])/\Below c.heap.size c w':=by
  intro d q e hd c l;refine(hc _ _ (q,e) hd c _ l (by simp[VRs,VR])).mono λx w' ⟨y,C,t,I⟩=>?_;simp only[VR,VRs]at t;obtain⟨Q,rfl,_,_,G,rfl,_,_,rfl,rfl,rfl⟩:=t;refine⟨?_,I.below⟩;rw[C];congr 2;apply mg;simpa using G
 have mixed:Tryz.prog.follows .mixedOrders=true:=by kernel_rfl
 obtain⟨b,o,k0,g⟩:=NT k;have s0:=k0 w (Below.refl _ _);have rd:∀w',Below w.heap.size w w'->(w'.cell? ⟨b,o,none⟩=some (.int .i64 4)/\w'.cell? ⟨b,o+1,none⟩=some (.int .i64 1))/\(w'.cell? ⟨b,o+2,none⟩=some (.int .i64 100)/\w'.cell? ⟨b,o+2+1,none⟩=some (.int .i64 (-1)))/\(w'.cell? ⟨b,o+4,none⟩=some (.int .i64 400)/\w'.cell? ⟨b,o+4+1,none⟩=some (.int .i64 1)):=λw' j=>
  ⟨⟨g 0 4 rfl w' j,g 1 1 rfl w' j⟩,⟨g 2 100 rfl w' j,g 3 (-1) rfl w' j⟩,⟨g 4 400 rfl w' j,g 5 1 rfl w' j⟩⟩
 obtain⟨⟨R,X⟩,_⟩:=rd w (Below.refl _ _)
 go_enter Tryz.func243,Tryz.ntmps243
 go_wp2_with fail
 refine wp_loop_rounds 4 ?_;rw[rounds_succ];have S:wrap64 1=1:=by unfold wrap64;rfl
 have L:wrap64 2=2:=by unfold wrap64;rfl
 have V:wrap64 3=3:=by unfold wrap64;rfl
 have A:Below w.heap.size w w:=Below.refl _ _;have D:Below w.heap.size w (w.alloc (.cells #[.int .i64 (4),.int .i64 (1)] 296)):=(Below.refl _ w).alloc (aQ _) _;have a1:Below w.heap.size w (w.alloc (.cells #[.int .i64 (4),.int .i64 (1)] 296)):=A.trans (D.mono A.size)
 go_wp2_with (go_at_call 228;refine(call hx _ (k.below a1)).mono ?_)
 rintro v c ⟨rfl,b1⟩;have p:c.cell? ⟨w.heap.size,1,none⟩=some (.int .i64 (1)):=by rw[rB b1];rfl
 have m:=a1.trans (b1.mono a1.size);obtain⟨_,⟨O,T⟩,_⟩:=rd c m
 go_wp2_with fail
 rw[rounds_succ];have F:Below c.heap.size c (c.alloc (.cells #[.int .i64 (100),.int .i64 (-1)] 296)):=(Below.refl _ c).alloc (aQ _) _;have a2:Below w.heap.size w (c.alloc (.cells #[.int .i64 (100),.int .i64 (-1)] 296)):=m.trans (F.mono m.size)
 go_wp2_with (go_at_call 228;refine(call hy _ (k.below a2)).mono ?_)
 rintro v f ⟨rfl,b2⟩;have P:f.cell? ⟨c.heap.size,1,none⟩=some (.int .i64 (-1)):=by rw[rB b2];rfl
 have d2:=a2.trans (b2.mono a2.size);obtain⟨_,_,U,M⟩:=rd f d2
 go_wp2_with fail
 rw[rounds_succ];have c3:Below f.heap.size f (f.alloc (.cells #[.int .i64 (400),.int .i64 (1)] 296)):=(Below.refl _ f).alloc (aQ _) _;have s:Below w.heap.size w (f.alloc (.cells #[.int .i64 (400),.int .i64 (1)] 296)):=d2.trans (c3.mono d2.size)
 go_wp2_with (go_at_call 228;refine(call u _ (k.below s)).mono ?_)
 rintro v H ⟨rfl,B⟩;have K:H.cell? ⟨f.heap.size,1,none⟩=some (.int .i64 (1)):=by rw[rB B];rfl
 have E:=s.trans (B.mono s.size)
 go_wp2_with fail
 rw[rounds_succ]
 go_wp2
 go_ret
 simp only[Int.one_mul,Int.neg_mul]at h;refine⟨.int .i64 r,?_,by simp only[VR],Below.fr E⟩;rw[<-h];rfl
end Go.Sh
