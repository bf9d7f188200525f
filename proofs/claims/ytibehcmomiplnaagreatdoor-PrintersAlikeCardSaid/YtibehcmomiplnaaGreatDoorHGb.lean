
import Derived.Test.YtibehcmomiplnaaGreatDoorHGm
set_option linter.unusedVariables false
set_option linter.unusedSimpArgs false
set_option maxRecDepth 100000
set_option linter.defProp false
namespace Go.Sh
open Go.Abs Go.Proofs Go.RowKit
def RJ{w:World}(g:GL gX w):∃b o,(∀w',Below w.heap.size w w'->w'.cell? ⟨8,0,none⟩=some (.slice (some ⟨b,o,none⟩) 3 3))/\
  ∀i z,H8[i]?=some z->∀w',Below w.heap.size w w'->w'.cell? ⟨b,o+i,none⟩=some (.int .i64 z):=by
 obtain⟨L,⟨v,B,k,c3,y,C,l,f,b,o,⟨c4,s,A,n,rfl,t⟩,u,q,j,m⟩,d,_⟩:=g;have k2:=d (8,.cells k l (0,0)) (by simp);have k3:=d (b,.cells c3 f (0,0)) (by simp);have lt:∀{r:Nat} {x:Obj},w.heap[r]?=some x->r<w.heap.size:=by
  intro r x h;rcases aN r w.heap.size with c | c
  ·exact c
  ·rw[wo c]at h;cases h
 refine⟨b,o,λw' a=>?_,λi z e w' a=>?_⟩
 ·rw[a.cell (p:=⟨_,_,none⟩) (lt k2),bh k2,j]
 ·rw[a.cell (p:=⟨_,_,none⟩) (lt k3),bh k3,m i z e]
def tG{w w':World}{c:Array Value}{e:TypeId}(a:Below (w.alloc (.cells c e)).heap.size (w.alloc (.cells c e)) w')(j:Nat):w'.cell? ⟨w.heap.size,j,none⟩=c[j]?:=by
 have h:w'.heap[w.heap.size]?=some (.cells c e (0,0)):=by
  rw[a.block _ (by show w.heap.size<(w.heap.push _).size;simp)];exact kq w _
 exact bh h
set_option maxHeartbeats 8000000 in
def vz(n:Nat)(hc:∀(x y:Int) (r:Int×Int),mJ n x y=some r->nE Tryz.prog 251 [.i .i64 x,.i .i64 y] (.tp [.i .i64 r.1,.i .i64 r.2]))(a:Int)(r:Int)(h:fM n a=some r):
  nE Tryz.prog 264 [.i .i64 a] (.i .i64 r):=by
 intro w E k hx;simp only[VRs,VR]at hx;obtain⟨_,_,l,rfl,rfl⟩:=hx;have:E=#[.int .i64 a]:=by apply lU;simpa using l
 subst this;clear l;simp only[fM]at h;obtain⟨⟨x,ex⟩,hx,h⟩:=ax h;obtain⟨⟨y,Q⟩,hy,h⟩:=ax h;obtain⟨⟨z,M⟩,u,h⟩:=ax h;simp only[ar]at h;have wr:∀v,IntKind.wrap .i64 v=wrap64 v:=λv=>by rw[HD];unfold wrap64;rfl
 simp only[wr]at hx hy u h;have call:∀{d q e:Int},mJ n (wrap64 (a - 1)) d=some (q,e)->∀c:World,GL gX c->Calls Tryz.prog 251 #[.int .i64 (wrap64 (a - 1)),.int .i64 d] c λx w'=>x=.returned (.tuple #[.int .i64 q,.int .i64 e])/\Below c.heap.size c w':=by
  intro d q e D c s;refine(hc _ _ (q,e) D c _ s (by simp[VRs,VR])).mono λx w' ⟨y,G,A,H⟩=>?_;simp only[VR,VRs]at A;obtain⟨P,rfl,_,_,F,rfl,_,_,rfl,rfl,rfl⟩:=A;refine⟨?_,H.below⟩;rw[G];congr 2;apply lU;simpa using F
 have mixed:Tryz.prog.follows .mixedOrders=true:=by kernel_rfl
 obtain⟨b,o,k0,g⟩:=RJ k;have s0:=k0 w (Below.refl _ _);have rd:∀w',Below w.heap.size w w'->(w'.cell? ⟨b,o,none⟩=some (.int .i64 4)/\w'.cell? ⟨b,o+1,none⟩=some (.int .i64 1))/\(w'.cell? ⟨b,o+2,none⟩=some (.int .i64 100)/\w'.cell? ⟨b,o+2+1,none⟩=some (.int .i64 (-1)))/\(w'.cell? ⟨b,o+4,none⟩=some (.int .i64 400)/\w'.cell? ⟨b,o+4+1,none⟩=some (.int .i64 1)):=λw' j=>
  ⟨⟨g 0 4 rfl w' j,g 1 1 rfl w' j⟩,⟨g 2 100 rfl w' j,g 3 (-1) rfl w' j⟩,⟨g 4 400 rfl w' j,g 5 1 rfl w' j⟩⟩
 obtain⟨⟨Y,X⟩,_⟩:=rd w (Below.refl _ _)
 go_enter Tryz.func264,Tryz.ntmps264
 go_wp2_with fail
 refine wp_loop_rounds 4 ?_;rw[rounds_succ];have O:wrap64 1=1:=by unfold wrap64;rfl
 have V:wrap64 2=2:=by unfold wrap64;rfl
 have N:wrap64 3=3:=by unfold wrap64;rfl
 have B:Below w.heap.size w w:=Below.refl _ _;have K:Below w.heap.size w (w.alloc (.cells #[.int .i64 (4),.int .i64 (1)] 324)):=(Below.refl _ w).alloc (bg _) _;have a1:Below w.heap.size w (w.alloc (.cells #[.int .i64 (4),.int .i64 (1)] 324)):=B.trans (K.mono B.size)
 go_wp2_with (go_at_call 251;refine(call hx _ (k.below a1)).mono ?_)
 rintro v c ⟨rfl,b1⟩;have l:c.cell? ⟨w.heap.size,1,none⟩=some (.int .i64 (1)):=by rw[tG b1];rfl
 have m:=a1.trans (b1.mono a1.size);obtain⟨_,⟨W,T⟩,_⟩:=rd c m
 go_wp2_with fail
 rw[rounds_succ];have J:Below c.heap.size c (c.alloc (.cells #[.int .i64 (100),.int .i64 (-1)] 324)):=(Below.refl _ c).alloc (bg _) _;have a2:Below w.heap.size w (c.alloc (.cells #[.int .i64 (100),.int .i64 (-1)] 324)):=m.trans (J.mono m.size)
 go_wp2_with (go_at_call 251;refine(call hy _ (k.below a2)).mono ?_)
 rintro v f ⟨rfl,b2⟩;have R:f.cell? ⟨c.heap.size,1,none⟩=some (.int .i64 (-1)):=by rw[tG b2];rfl
 have d2:=a2.trans (b2.mono a2.size);obtain⟨_,_,L,U⟩:=rd f d2
 go_wp2_with fail
 rw[rounds_succ];have c3:Below f.heap.size f (f.alloc (.cells #[.int .i64 (400),.int .i64 (1)] 324)):=(Below.refl _ f).alloc (bg _) _;have p:Below w.heap.size w (f.alloc (.cells #[.int .i64 (400),.int .i64 (1)] 324)):=d2.trans (c3.mono d2.size)
 go_wp2_with (go_at_call 251;refine(call u _ (k.below p)).mono ?_)
 rintro v C ⟨rfl,t⟩;have S:C.cell? ⟨f.heap.size,1,none⟩=some (.int .i64 (1)):=by rw[tG t];rfl
 have I:=p.trans (t.mono p.size)
 go_wp2_with fail
 rw[rounds_succ]
 go_wp2
 go_ret
 simp only[Int.one_mul,Int.neg_mul]at h;refine⟨.int .i64 r,?_,by simp only[VR],Below.fr I⟩;rw[<-h];rfl
end Go.Sh
