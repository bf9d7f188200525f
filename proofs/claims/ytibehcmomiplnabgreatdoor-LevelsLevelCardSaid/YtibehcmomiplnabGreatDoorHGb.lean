
import Derived.Test.YtibehcmomiplnabGreatDoorHGm
set_option linter.unusedSimpArgs false
set_option linter.unusedVariables false
set_option linter.defProp false
set_option maxRecDepth 100000
namespace Go.Sh
open Go.Abs Go.Proofs Go.RowKit
def TY{w:World}(k:GL iI w):∃b o,(∀w',Below w.heap.size w w'->w'.cell? ⟨5,0,none⟩=some (.slice (some ⟨b,o,none⟩) 3 3))/\
  ∀i z,Ll[i]?=some z->∀w',Below w.heap.size w w'->w'.cell? ⟨b,o+i,none⟩=some (.int .i64 z):=by
 obtain⟨L,⟨B,s,f,c3,t,v,l,g,b,o,⟨c4,u,C,q,rfl,n⟩,y,A,j,e⟩,d,_⟩:=k;have k2:=d (5,.cells f l (0,0)) (by simp);have k3:=d (b,.cells c3 g (0,0)) (by simp);have lt:∀{r:Nat} {x:Obj},w.heap[r]?=some x->r<w.heap.size:=by
  intro r x h;rcases aN r w.heap.size with c | c
  ·exact c
  ·rw[ym c]at h;cases h
 refine⟨b,o,λw' a=>?_,λi z m w' a=>?_⟩
 ·rw[a.cell (p:=⟨_,_,none⟩) (lt k2),bB k2,j]
 ·rw[a.cell (p:=⟨_,_,none⟩) (lt k3),bB k3,e i z m]
def vO{w w':World}{c:Array Value}{e:TypeId}(a:Below (w.alloc (.cells c e)).heap.size (w.alloc (.cells c e)) w')(j:Nat):w'.cell? ⟨w.heap.size,j,none⟩=c[j]?:=by
 have h:w'.heap[w.heap.size]?=some (.cells c e (0,0)):=by
  rw[a.block _ (by show w.heap.size<(w.heap.push _).size;simp)];exact lA w _
 exact bB h
set_option maxHeartbeats 8000000 in
def xJ(n:Nat)(hc:∀(x y:Int) (r:Int×Int),nH n x y=some r->oP Tryz.prog 266 [.i .i64 x,.i .i64 y] (.tp [.i .i64 r.1,.i .i64 r.2]))(a:Int)(r:Int)(h:gA n a=some r):
  oP Tryz.prog 277 [.i .i64 a] (.i .i64 r):=by
 intro w D k hx;simp only[VRs,VR]at hx;obtain⟨_,_,p,rfl,rfl⟩:=hx;have:D=#[.int .i64 a]:=by apply mO;simpa using p
 subst this;clear p;simp only[gA]at h;obtain⟨⟨x,ex⟩,hx,h⟩:=ax h;obtain⟨⟨y,R⟩,hy,h⟩:=ax h;obtain⟨⟨z,O⟩,A,h⟩:=ax h;simp only[aw]at h;have wr:∀v,IntKind.wrap .i64 v=wrap64 v:=λv=>by rw[LE];unfold wrap64;rfl
 simp only[wr]at hx hy A h;have call:∀{d q e:Int},nH n (wrap64 (a - 1)) d=some (q,e)->∀c:World,GL iI c->Calls Tryz.prog 266 #[.int .i64 (wrap64 (a - 1)),.int .i64 d] c λx w'=>x=.returned (.tuple #[.int .i64 q,.int .i64 e])/\Below c.heap.size c w':=by
  intro d q e K c s;refine(hc _ _ (q,e) K c _ s (by simp[VRs,VR])).mono λx w' ⟨y,J,u,H⟩=>?_;simp only[VR,VRs]at u;obtain⟨T,rfl,_,_,I,rfl,_,_,rfl,rfl,rfl⟩:=u;refine⟨?_,H.below⟩;rw[J];congr 2;apply mO;simpa using I
 have mixed:Tryz.prog.follows .mixedOrders=true:=by kernel_rfl
 obtain⟨b,o,k0,j⟩:=TY k;have s0:=k0 w (Below.refl _ _);have rd:∀w',Below w.heap.size w w'->(w'.cell? ⟨b,o,none⟩=some (.int .i64 4)/\w'.cell? ⟨b,o+1,none⟩=some (.int .i64 1))/\(w'.cell? ⟨b,o+2,none⟩=some (.int .i64 100)/\w'.cell? ⟨b,o+2+1,none⟩=some (.int .i64 (-1)))/\(w'.cell? ⟨b,o+4,none⟩=some (.int .i64 400)/\w'.cell? ⟨b,o+4+1,none⟩=some (.int .i64 1)):=λw' g=>
  ⟨⟨j 0 4 rfl w' g,j 1 1 rfl w' g⟩,⟨j 2 100 rfl w' g,j 3 (-1) rfl w' g⟩,⟨j 4 400 rfl w' g,j 5 1 rfl w' g⟩⟩
 obtain⟨⟨N,W⟩,_⟩:=rd w (Below.refl _ _)
 go_enter Tryz.func277,Tryz.ntmps277
 go_wp2_with fail
 refine wp_loop_rounds 4 ?_;rw[rounds_succ];have P:wrap64 1=1:=by unfold wrap64;rfl
 have X:wrap64 2=2:=by unfold wrap64;rfl
 have Y:wrap64 3=3:=by unfold wrap64;rfl
 have t:Below w.heap.size w w:=Below.refl _ _;have F:Below w.heap.size w (w.alloc (.cells #[.int .i64 (4),.int .i64 (1)] 351)):=(Below.refl _ w).alloc (bi _) _;have a1:Below w.heap.size w (w.alloc (.cells #[.int .i64 (4),.int .i64 (1)] 351)):=t.trans (F.mono t.size)
 go_wp2_with (go_at_call 266;refine(call hx _ (k.below a1)).mono ?_)
 rintro v c ⟨rfl,b1⟩;have p:c.cell? ⟨w.heap.size,1,none⟩=some (.int .i64 (1)):=by rw[vO b1];rfl
 have l:=a1.trans (b1.mono a1.size);obtain⟨_,⟨M,Q⟩,_⟩:=rd c l
 go_wp2_with fail
 rw[rounds_succ];have E:Below c.heap.size c (c.alloc (.cells #[.int .i64 (100),.int .i64 (-1)] 351)):=(Below.refl _ c).alloc (bi _) _;have a2:Below w.heap.size w (c.alloc (.cells #[.int .i64 (100),.int .i64 (-1)] 351)):=l.trans (E.mono l.size)
 go_wp2_with (go_at_call 266;refine(call hy _ (k.below a2)).mono ?_)
 rintro v f ⟨rfl,b2⟩;have S:f.cell? ⟨c.heap.size,1,none⟩=some (.int .i64 (-1)):=by rw[vO b2];rfl
 have d2:=a2.trans (b2.mono a2.size);obtain⟨_,_,V,U⟩:=rd f d2
 go_wp2_with fail
 rw[rounds_succ];have c3:Below f.heap.size f (f.alloc (.cells #[.int .i64 (400),.int .i64 (1)] 351)):=(Below.refl _ f).alloc (bi _) _;have m:Below w.heap.size w (f.alloc (.cells #[.int .i64 (400),.int .i64 (1)] 351)):=d2.trans (c3.mono d2.size)
 go_wp2_with (go_at_call 266;refine(call A _ (k.below m)).mono ?_)
 rintro v C ⟨rfl,B⟩;have L:C.cell? ⟨f.heap.size,1,none⟩=some (.int .i64 (1)):=by rw[vO B];rfl
 have G:=m.trans (B.mono m.size)
 go_wp2_with fail
 rw[rounds_succ]
 go_wp2
 go_ret
 simp only[Int.one_mul,Int.neg_mul]at h;refine⟨.int .i64 r,?_,by simp only[VR],Below.fr G⟩;rw[<-h];rfl
end Go.Sh
