
import Derived.Test.YtadejcglcffgbacGreatDoorHGm
set_option linter.unusedVariables false
set_option linter.unusedSimpArgs false
set_option maxRecDepth 100000
set_option linter.defProp false
namespace Go.Sh
open Go.Abs Go.Proofs Go.RowKit
def Ia{w:World}(k:GL dY w):∃b o,(∀w',Below w.heap.size w w'->w'.cell? ⟨5,0,none⟩=some (.slice (some ⟨b,o,none⟩) 3 3))/\
  ∀i z,Am[i]?=some z->∀w',Below w.heap.size w w'->w'.cell? ⟨b,o+i,none⟩=some (.int .i64 z):=by
 obtain⟨L,⟨y,t,j,c3,n,q,l,f,b,o,⟨c4,v,s,A,rfl,u⟩,h0,h1,h2,m⟩,d,_⟩:=k;have k2:=d (5,.cells j l (0,0)) (by simp);have e:=d (b,.cells c3 f (0,0)) (by simp);have lt:∀{r:Nat} {x:Obj},w.heap[r]?=some x->r<w.heap.size:=by
  intro r x h;rcases aA r w.heap.size with a | a
  ·exact a
  ·rw[tj a]at h;cases h
 refine⟨b,o,λw' c=>?_,λi z g w' c=>?_⟩
 ·rw[c.cell (p:=⟨_,_,none⟩) (lt k2),aN k2,h2]
 ·rw[c.cell (p:=⟨_,_,none⟩) (lt e),aN e,m i z g]
def ov{w w':World}{c:Array Value}{e:TypeId}(a:Below (w.alloc (.cells c e)).heap.size (w.alloc (.cells c e)) w')(j:Nat):w'.cell? ⟨w.heap.size,j,none⟩=c[j]?:=by
 have h:w'.heap[w.heap.size]?=some (.cells c e (0,0)):=by
  rw[a.block _ (by show w.heap.size<(w.heap.push _).size;simp)];exact gC w _
 exact aN h
set_option maxHeartbeats 8000000 in
def pZ(n:Nat)(hc:∀(x y:Int) (r:Int×Int),iv n x y=some r->il Tryz.prog 122 [.i .i64 x,.i .i64 y] (.tp [.i .i64 r.1,.i .i64 r.2]))(a:Int)(r:Int)(h:dq n a=some r):
  il Tryz.prog 176 [.i .i64 a] (.i .i64 r):=by
 intro w L l k;simp only[VRs,VR]at k;obtain⟨_,_,t,rfl,rfl⟩:=k;have:L=#[.int .i64 a]:=by apply gQ;simpa using t
 subst this;clear t;simp only[dq]at h;obtain⟨⟨x,ex⟩,k,h⟩:=ah h;obtain⟨⟨y,ey⟩,F,h⟩:=ah h;obtain⟨⟨z,Y⟩,E,h⟩:=ah h;simp only[af]at h;have wr:∀v,IntKind.wrap .i64 v=wrap64 v:=λv=>by rw[Bt];unfold wrap64;rfl
 simp only[wr]at k F E h;have call:∀{d q e:Int},iv n (wrap64 (a - 1)) d=some (q,e)->∀c:World,GL dY c->Calls Tryz.prog 122 #[.int .i64 (wrap64 (a - 1)),.int .i64 d] c λx w'=>x=.returned (.tuple #[.int .i64 q,.int .i64 e])/\Below c.heap.size c w':=by
  intro d q e P c s;refine(hc _ _ (q,e) P c _ s (by simp[VRs,VR])).mono λx w' ⟨y,K,B,J⟩=>?_;simp only[VR,VRs]at B;obtain⟨V,rfl,_,_,I,rfl,_,_,rfl,rfl,rfl⟩:=B;refine⟨?_,J.below⟩;rw[K];congr 2;apply gQ;simpa using I
 have mixed:Tryz.prog.follows .mixedOrders=true:=by kernel_rfl
 obtain⟨b,o,k0,j⟩:=Ia l;have s0:=k0 w (Below.refl _ _);have rd:∀w',Below w.heap.size w w'->(w'.cell? ⟨b,o,none⟩=some (.int .i64 4)/\w'.cell? ⟨b,o+1,none⟩=some (.int .i64 1))/\(w'.cell? ⟨b,o+2,none⟩=some (.int .i64 100)/\w'.cell? ⟨b,o+2+1,none⟩=some (.int .i64 (-1)))/\(w'.cell? ⟨b,o+4,none⟩=some (.int .i64 400)/\w'.cell? ⟨b,o+4+1,none⟩=some (.int .i64 1)):=λw' g=>
  ⟨⟨j 0 4 rfl w' g,j 1 1 rfl w' g⟩,⟨j 2 100 rfl w' g,j 3 (-1) rfl w' g⟩,⟨j 4 400 rfl w' g,j 5 1 rfl w' g⟩⟩
 obtain⟨⟨U,S⟩,_⟩:=rd w (Below.refl _ _)
 go_enter Tryz.func176,Tryz.ntmps176
 go_wp2_with fail
 refine wp_loop_rounds 4 ?_;rw[rounds_succ];have T:wrap64 1=1:=by unfold wrap64;rfl
 have v2:wrap64 2=2:=by unfold wrap64;rfl
 have v3:wrap64 3=3:=by unfold wrap64;rfl
 have G:Below w.heap.size w w:=Below.refl _ _;have N:Below w.heap.size w (w.alloc (.cells #[.int .i64 (4),.int .i64 (1)] 277)):=(Below.refl _ w).alloc (aI _) _;have m:Below w.heap.size w (w.alloc (.cells #[.int .i64 (4),.int .i64 (1)] 277)):=G.trans (N.mono G.size)
 go_wp2_with (go_at_call 122;refine(call k _ (l.below m)).mono ?_)
 rintro v c ⟨rfl,H⟩;have t:c.cell? ⟨w.heap.size,1,none⟩=some (.int .i64 (1)):=by rw[ov H];rfl
 have A:=m.trans (H.mono m.size);obtain⟨_,⟨Z,f3⟩,_⟩:=rd c A
 go_wp2_with fail
 rw[rounds_succ];have M:Below c.heap.size c (c.alloc (.cells #[.int .i64 (100),.int .i64 (-1)] 277)):=(Below.refl _ c).alloc (aI _) _;have p:Below w.heap.size w (c.alloc (.cells #[.int .i64 (100),.int .i64 (-1)] 277)):=A.trans (M.mono A.size)
 go_wp2_with (go_at_call 122;refine(call F _ (l.below p)).mono ?_)
 rintro v f ⟨rfl,C⟩;have R:f.cell? ⟨c.heap.size,1,none⟩=some (.int .i64 (-1)):=by rw[ov C];rfl
 have d2:=p.trans (C.mono p.size);obtain⟨_,_,W,f5⟩:=rd f d2
 go_wp2_with fail
 rw[rounds_succ];have c3:Below f.heap.size f (f.alloc (.cells #[.int .i64 (400),.int .i64 (1)] 277)):=(Below.refl _ f).alloc (aI _) _;have u:Below w.heap.size w (f.alloc (.cells #[.int .i64 (400),.int .i64 (1)] 277)):=d2.trans (c3.mono d2.size)
 go_wp2_with (go_at_call 122;refine(call E _ (l.below u)).mono ?_)
 rintro v O ⟨rfl,D⟩;have X:O.cell? ⟨f.heap.size,1,none⟩=some (.int .i64 (1)):=by rw[ov D];rfl
 have Q:=u.trans (D.mono u.size)
 go_wp2_with fail
 rw[rounds_succ]
 go_wp2
 go_ret
 simp only[Int.one_mul,Int.neg_mul]at h;refine⟨.int .i64 r,?_,by simp only[VR],Below.fr Q⟩;rw[<-h];rfl
end Go.Sh
