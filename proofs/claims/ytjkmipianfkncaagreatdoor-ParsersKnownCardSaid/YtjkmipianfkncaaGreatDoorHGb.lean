
import Derived.Test.YtjkmipianfkncaaGreatDoorHGm
set_option linter.unusedVariables false
set_option linter.unusedSimpArgs false
set_option maxRecDepth 100000
set_option linter.defProp false
namespace Go.Sh
open Go.Abs Go.Proofs Go.RowKit
def Ol{w:World}(k:GL jG w):∃b o,(∀w',Below w.heap.size w w'->w'.cell? ⟨7,0,none⟩=some (.slice (some ⟨b,o,none⟩) 3 3))/\
  ∀i z,Gy[i]?=some z->∀w',Below w.heap.size w w'->w'.cell? ⟨b,o+i,none⟩=some (.int .i64 z):=by
 obtain⟨L,⟨A,t,n,c3,u,q,l,g,b,o,⟨c4,s,C,v,rfl,B⟩,y,D,j,f⟩,e,_⟩:=k;have k2:=e (7,.cells n l (0,0)) (by simp);have d:=e (b,.cells c3 g (0,0)) (by simp);have lt:∀{r:Nat} {x:Obj},w.heap[r]?=some x->r<w.heap.size:=by
  intro r x h;rcases aF r w.heap.size with c | c
  ·exact c
  ·rw[xO c]at h;cases h
 refine⟨b,o,λw' a=>?_,λi z m w' a=>?_⟩
 ·rw[a.cell (p:=⟨_,_,none⟩) (lt k2),bB k2,j]
 ·rw[a.cell (p:=⟨_,_,none⟩) (lt d),bB d,f i z m]
def sq{w w':World}{c:Array Value}{e:TypeId}(a:Below (w.alloc (.cells c e)).heap.size (w.alloc (.cells c e)) w')(j:Nat):w'.cell? ⟨w.heap.size,j,none⟩=c[j]?:=by
 have h:w'.heap[w.heap.size]?=some (.cells c e (0,0)):=by
  rw[a.block _ (by show w.heap.size<(w.heap.push _).size;simp)];exact lW w _
 exact bB h
set_option maxHeartbeats 8000000 in
def uL(n:Nat)(hc:∀(x y:Int) (r:Int×Int),lR n x y=some r->lj Tryz.prog 228 [.i .i64 x,.i .i64 y] (.tp [.i .i64 r.1,.i .i64 r.2]))(a:Int)(r:Int)(h:fA n a=some r):
  lj Tryz.prog 243 [.i .i64 a] (.i .i64 r):=by
 intro w C k hx;simp only[VRs,VR]at hx;obtain⟨_,_,m,rfl,rfl⟩:=hx;have:C=#[.int .i64 a]:=by apply mS;simpa using m
 subst this;clear m;simp only[fA]at h;obtain⟨⟨x,ex⟩,hx,h⟩:=av h;obtain⟨⟨y,L⟩,hy,h⟩:=av h;obtain⟨⟨z,X⟩,B,h⟩:=av h;simp only[ar]at h;have wr:∀v,IntKind.wrap .i64 v=wrap64 v:=λv=>by rw[GN];unfold wrap64;rfl
 simp only[wr]at hx hy B h;have call:∀{d q e:Int},lR n (wrap64 (a - 1)) d=some (q,e)->∀c:World,GL jG c->Calls Tryz.prog 228 #[.int .i64 (wrap64 (a - 1)),.int .i64 d] c λx w'=>x=.returned (.tuple #[.int .i64 q,.int .i64 e])/\Below c.heap.size c w':=by
  intro d q e hd c l;refine(hc _ _ (q,e) hd c _ l (by simp[VRs,VR])).mono λx w' ⟨y,F,u,I⟩=>?_;simp only[VR,VRs]at u;obtain⟨S,rfl,_,_,E,rfl,_,_,rfl,rfl,rfl⟩:=u;refine⟨?_,I.below⟩;rw[F];congr 2;apply mS;simpa using E
 have mixed:Tryz.prog.follows .mixedOrders=true:=by kernel_rfl
 obtain⟨b,o,k0,j⟩:=Ol k;have s0:=k0 w (Below.refl _ _);have rd:∀w',Below w.heap.size w w'->(w'.cell? ⟨b,o,none⟩=some (.int .i64 4)/\w'.cell? ⟨b,o+1,none⟩=some (.int .i64 1))/\(w'.cell? ⟨b,o+2,none⟩=some (.int .i64 100)/\w'.cell? ⟨b,o+2+1,none⟩=some (.int .i64 (-1)))/\(w'.cell? ⟨b,o+4,none⟩=some (.int .i64 400)/\w'.cell? ⟨b,o+4+1,none⟩=some (.int .i64 1)):=λw' g=>
  ⟨⟨j 0 4 rfl w' g,j 1 1 rfl w' g⟩,⟨j 2 100 rfl w' g,j 3 (-1) rfl w' g⟩,⟨j 4 400 rfl w' g,j 5 1 rfl w' g⟩⟩
 obtain⟨⟨Q,M⟩,_⟩:=rd w (Below.refl _ _)
 go_enter Tryz.func243,Tryz.ntmps243
 go_wp2_with fail
 refine wp_loop_rounds 4 ?_;rw[rounds_succ];have T:wrap64 1=1:=by unfold wrap64;rfl
 have N:wrap64 2=2:=by unfold wrap64;rfl
 have P:wrap64 3=3:=by unfold wrap64;rfl
 have A:Below w.heap.size w w:=Below.refl _ _;have D:Below w.heap.size w (w.alloc (.cells #[.int .i64 (4),.int .i64 (1)] 296)):=(Below.refl _ w).alloc (aQ _) _;have a1:Below w.heap.size w (w.alloc (.cells #[.int .i64 (4),.int .i64 (1)] 296)):=A.trans (D.mono A.size)
 go_wp2_with (go_at_call 228;refine(call hx _ (k.below a1)).mono ?_)
 rintro v c ⟨rfl,b1⟩;have m:c.cell? ⟨w.heap.size,1,none⟩=some (.int .i64 (1)):=by rw[sq b1];rfl
 have s:=a1.trans (b1.mono a1.size);obtain⟨_,⟨U,V⟩,_⟩:=rd c s
 go_wp2_with fail
 rw[rounds_succ];have J:Below c.heap.size c (c.alloc (.cells #[.int .i64 (100),.int .i64 (-1)] 296)):=(Below.refl _ c).alloc (aQ _) _;have a2:Below w.heap.size w (c.alloc (.cells #[.int .i64 (100),.int .i64 (-1)] 296)):=s.trans (J.mono s.size)
 go_wp2_with (go_at_call 228;refine(call hy _ (k.below a2)).mono ?_)
 rintro v f ⟨rfl,b2⟩;have O:f.cell? ⟨c.heap.size,1,none⟩=some (.int .i64 (-1)):=by rw[sq b2];rfl
 have d2:=a2.trans (b2.mono a2.size);obtain⟨_,_,R,K⟩:=rd f d2
 go_wp2_with fail
 rw[rounds_succ];have c3:Below f.heap.size f (f.alloc (.cells #[.int .i64 (400),.int .i64 (1)] 296)):=(Below.refl _ f).alloc (aQ _) _;have p:Below w.heap.size w (f.alloc (.cells #[.int .i64 (400),.int .i64 (1)] 296)):=d2.trans (c3.mono d2.size)
 go_wp2_with (go_at_call 228;refine(call B _ (k.below p)).mono ?_)
 rintro v G ⟨rfl,t⟩;have W:G.cell? ⟨f.heap.size,1,none⟩=some (.int .i64 (1)):=by rw[sq t];rfl
 have H:=p.trans (t.mono p.size)
 go_wp2_with fail
 rw[rounds_succ]
 go_wp2
 go_ret
 simp only[Int.one_mul,Int.neg_mul]at h;refine⟨.int .i64 r,?_,by simp only[VR],Below.fr H⟩;rw[<-h];rfl
end Go.Sh
