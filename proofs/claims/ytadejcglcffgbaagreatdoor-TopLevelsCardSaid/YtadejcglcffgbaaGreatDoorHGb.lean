
import Derived.Test.YtadejcglcffgbaaGreatDoorHGm
set_option linter.unusedVariables false
set_option linter.unusedSimpArgs false
set_option maxRecDepth 100000
set_option linter.defProp false
namespace Go.Sh
open Go.Abs Go.Proofs Go.RowKit
def Rh{w:World}(f:GL gQ w):∃b o,(∀w',Below w.heap.size w w'->w'.cell? ⟨6,0,none⟩=some (.slice (some ⟨b,o,none⟩) 3 3))/\
  ∀i z,IW[i]?=some z->∀w',Below w.heap.size w w'->w'.cell? ⟨b,o+i,none⟩=some (.int .i64 z):=by
 obtain⟨L,⟨t,C,g,c3,s,B,j,l,b,o,⟨c4,y,v,q,rfl,A⟩,n,u,k,m⟩,d,_⟩:=f;have k2:=d (6,.cells g j (0,0)) (by simp);have k3:=d (b,.cells c3 l (0,0)) (by simp);have lt:∀{r:Nat} {x:Obj},w.heap[r]?=some x->r<w.heap.size:=by
  intro r x h;rcases aJ r w.heap.size with c | c
  ·exact c
  ·rw[vV c]at h;cases h
 refine⟨b,o,λw' a=>?_,λi z e w' a=>?_⟩
 ·rw[a.cell (p:=⟨_,_,none⟩) (lt k2),bg k2,k]
 ·rw[a.cell (p:=⟨_,_,none⟩) (lt k3),bg k3,m i z e]
def tl{w w':World}{c:Array Value}{e:TypeId}(a:Below (w.alloc (.cells c e)).heap.size (w.alloc (.cells c e)) w')(j:Nat):w'.cell? ⟨w.heap.size,j,none⟩=c[j]?:=by
 have h:w'.heap[w.heap.size]?=some (.cells c e (0,0)):=by
  rw[a.block _ (by show w.heap.size<(w.heap.push _).size;simp)];exact jV w _
 exact bg h
set_option maxHeartbeats 8000000 in
def uZ(n:Nat)(hc:∀(x y:Int) (r:Int×Int),mi n x y=some r->na Tryz.prog 237 [.i .i64 x,.i .i64 y] (.tp [.i .i64 r.1,.i .i64 r.2]))(a:Int)(r:Int)(h:fM n a=some r):
  na Tryz.prog 256 [.i .i64 a] (.i .i64 r):=by
 intro w I k hx;simp only[VRs,VR]at hx;obtain⟨_,_,p,rfl,rfl⟩:=hx;have:I=#[.int .i64 a]:=by apply lq;simpa using p
 subst this;clear p;simp only[fM]at h;obtain⟨⟨x,ex⟩,hx,h⟩:=ax h;obtain⟨⟨y,Q⟩,hy,h⟩:=ax h;obtain⟨⟨z,R⟩,u,h⟩:=ax h;simp only[aq]at h;have wr:∀v,IntKind.wrap .i64 v=wrap64 v:=λv=>by rw[HF];unfold wrap64;rfl
 simp only[wr]at hx hy u h;have call:∀{d q e:Int},mi n (wrap64 (a - 1)) d=some (q,e)->∀c:World,GL gQ c->Calls Tryz.prog 237 #[.int .i64 (wrap64 (a - 1)),.int .i64 d] c λx w'=>x=.returned (.tuple #[.int .i64 q,.int .i64 e])/\Below c.heap.size c w':=by
  intro d q e C c l;refine(hc _ _ (q,e) C c _ l (by simp[VRs,VR])).mono λx w' ⟨y,E,t,G⟩=>?_;simp only[VR,VRs]at t;obtain⟨V,rfl,_,_,H,rfl,_,_,rfl,rfl,rfl⟩:=t;refine⟨?_,G.below⟩;rw[E];congr 2;apply lq;simpa using H
 have mixed:Tryz.prog.follows .mixedOrders=true:=by kernel_rfl
 obtain⟨b,o,k0,j⟩:=Rh k;have s0:=k0 w (Below.refl _ _);have rd:∀w',Below w.heap.size w w'->(w'.cell? ⟨b,o,none⟩=some (.int .i64 4)/\w'.cell? ⟨b,o+1,none⟩=some (.int .i64 1))/\(w'.cell? ⟨b,o+2,none⟩=some (.int .i64 100)/\w'.cell? ⟨b,o+2+1,none⟩=some (.int .i64 (-1)))/\(w'.cell? ⟨b,o+4,none⟩=some (.int .i64 400)/\w'.cell? ⟨b,o+4+1,none⟩=some (.int .i64 1)):=λw' g=>
  ⟨⟨j 0 4 rfl w' g,j 1 1 rfl w' g⟩,⟨j 2 100 rfl w' g,j 3 (-1) rfl w' g⟩,⟨j 4 400 rfl w' g,j 5 1 rfl w' g⟩⟩
 obtain⟨⟨P,U⟩,_⟩:=rd w (Below.refl _ _)
 go_enter Tryz.func256,Tryz.ntmps256
 go_wp2_with fail
 refine wp_loop_rounds 4 ?_;rw[rounds_succ];have S:wrap64 1=1:=by unfold wrap64;rfl
 have L:wrap64 2=2:=by unfold wrap64;rfl
 have T:wrap64 3=3:=by unfold wrap64;rfl
 have B:Below w.heap.size w w:=Below.refl _ _;have K:Below w.heap.size w (w.alloc (.cells #[.int .i64 (4),.int .i64 (1)] 323)):=(Below.refl _ w).alloc (aU _) _;have a1:Below w.heap.size w (w.alloc (.cells #[.int .i64 (4),.int .i64 (1)] 323)):=B.trans (K.mono B.size)
 go_wp2_with (go_at_call 237;refine(call hx _ (k.below a1)).mono ?_)
 rintro v c ⟨rfl,b1⟩;have p:c.cell? ⟨w.heap.size,1,none⟩=some (.int .i64 (1)):=by rw[tl b1];rfl
 have m:=a1.trans (b1.mono a1.size);obtain⟨_,⟨O,Y⟩,_⟩:=rd c m
 go_wp2_with fail
 rw[rounds_succ];have F:Below c.heap.size c (c.alloc (.cells #[.int .i64 (100),.int .i64 (-1)] 323)):=(Below.refl _ c).alloc (aU _) _;have a2:Below w.heap.size w (c.alloc (.cells #[.int .i64 (100),.int .i64 (-1)] 323)):=m.trans (F.mono m.size)
 go_wp2_with (go_at_call 237;refine(call hy _ (k.below a2)).mono ?_)
 rintro v f ⟨rfl,b2⟩;have W:f.cell? ⟨c.heap.size,1,none⟩=some (.int .i64 (-1)):=by rw[tl b2];rfl
 have d2:=a2.trans (b2.mono a2.size);obtain⟨_,_,M,X⟩:=rd f d2
 go_wp2_with fail
 rw[rounds_succ];have c3:Below f.heap.size f (f.alloc (.cells #[.int .i64 (400),.int .i64 (1)] 323)):=(Below.refl _ f).alloc (aU _) _;have s:Below w.heap.size w (f.alloc (.cells #[.int .i64 (400),.int .i64 (1)] 323)):=d2.trans (c3.mono d2.size)
 go_wp2_with (go_at_call 237;refine(call u _ (k.below s)).mono ?_)
 rintro v J ⟨rfl,A⟩;have N:J.cell? ⟨f.heap.size,1,none⟩=some (.int .i64 (1)):=by rw[tl A];rfl
 have D:=s.trans (A.mono s.size)
 go_wp2_with fail
 rw[rounds_succ]
 go_wp2
 go_ret
 simp only[Int.one_mul,Int.neg_mul]at h;refine⟨.int .i64 r,?_,by simp only[VR],Below.fr D⟩;rw[<-h];rfl
end Go.Sh
