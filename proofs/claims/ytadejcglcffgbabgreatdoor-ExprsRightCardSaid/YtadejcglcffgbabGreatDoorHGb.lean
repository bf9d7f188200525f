
import Derived.Test.YtadejcglcffgbabGreatDoorHGm
set_option linter.unusedVariables false
set_option linter.unusedSimpArgs false
set_option maxRecDepth 100000
set_option linter.defProp false
namespace Go.Sh
open Go.Abs Go.Proofs Go.RowKit
def Iw{w:World}(k:GL ii w):∃b o,(∀w',Below w.heap.size w w'->w'.cell? ⟨4,0,none⟩=some (.slice (some ⟨b,o,none⟩) 3 3))/\
  ∀i z,BD[i]?=some z->∀w',Below w.heap.size w w'->w'.cell? ⟨b,o+i,none⟩=some (.int .i64 z):=by
 obtain⟨L,⟨n,B,f,c3,u,t,g,l,b,o,⟨c4,q,A,s,rfl,v⟩,y,C,j,m⟩,d,_⟩:=k;have k2:=d (4,.cells f g (0,0)) (by simp);have k3:=d (b,.cells c3 l (0,0)) (by simp);have lt:∀{r:Nat} {x:Obj},w.heap[r]?=some x->r<w.heap.size:=by
  intro r x h;rcases aI r w.heap.size with c | c
  ·exact c
  ·rw[uv c]at h;cases h
 refine⟨b,o,λw' a=>?_,λi z e w' a=>?_⟩
 ·rw[a.cell (p:=⟨_,_,none⟩) (lt k2),bB k2,j]
 ·rw[a.cell (p:=⟨_,_,none⟩) (lt k3),bB k3,m i z e]
def pd{w w':World}{c:Array Value}{e:TypeId}(a:Below (w.alloc (.cells c e)).heap.size (w.alloc (.cells c e)) w')(j:Nat):w'.cell? ⟨w.heap.size,j,none⟩=c[j]?:=by
 have h:w'.heap[w.heap.size]?=some (.cells c e (0,0)):=by
  rw[a.block _ (by show w.heap.size<(w.heap.push _).size;simp)];exact jv w _
 exact bB h
set_option maxHeartbeats 8000000 in
def qJ(n:Nat)(hc:∀(x y:Int) (r:Int×Int),jw n x y=some r->kV Tryz.prog 166 [.i .i64 x,.i .i64 y] (.tp [.i .i64 r.1,.i .i64 r.2]))(a:Int)(r:Int)(h:dM n a=some r):
  kV Tryz.prog 184 [.i .i64 a] (.i .i64 r):=by
 intro w K k hx;simp only[VRs,VR]at hx;obtain⟨_,_,l,rfl,rfl⟩:=hx;have:K=#[.int .i64 a]:=by apply kH;simpa using l
 subst this;clear l;simp only[dM]at h;obtain⟨⟨x,ex⟩,hx,h⟩:=av h;obtain⟨⟨y,ey⟩,hy,h⟩:=av h;obtain⟨⟨z,ez⟩,B,h⟩:=av h;simp only[aq]at h;have wr:∀v,IntKind.wrap .i64 v=wrap64 v:=λv=>by rw[B5];unfold wrap64;rfl
 simp only[wr]at hx hy B h;have call:∀{d q e:Int},jw n (wrap64 (a - 1)) d=some (q,e)->∀c:World,GL ii c->Calls Tryz.prog 166 #[.int .i64 (wrap64 (a - 1)),.int .i64 d] c λx w'=>x=.returned (.tuple #[.int .i64 q,.int .i64 e])/\Below c.heap.size c w':=by
  intro d q e H c A;refine(hc _ _ (q,e) H c _ A (by simp[VRs,VR])).mono λx w' ⟨y,N,G,I⟩=>?_;simp only[VR,VRs]at G;obtain⟨Z,rfl,_,_,L,rfl,_,_,rfl,rfl,rfl⟩:=G;refine⟨?_,I.below⟩;rw[N];congr 2;apply kH;simpa using L
 have mixed:Tryz.prog.follows .mixedOrders=true:=by kernel_rfl
 obtain⟨b,o,k0,g⟩:=Iw k;have s0:=k0 w (Below.refl _ _);have rd:∀w',Below w.heap.size w w'->(w'.cell? ⟨b,o,none⟩=some (.int .i64 4)/\w'.cell? ⟨b,o+1,none⟩=some (.int .i64 1))/\(w'.cell? ⟨b,o+2,none⟩=some (.int .i64 100)/\w'.cell? ⟨b,o+2+1,none⟩=some (.int .i64 (-1)))/\(w'.cell? ⟨b,o+4,none⟩=some (.int .i64 400)/\w'.cell? ⟨b,o+4+1,none⟩=some (.int .i64 1)):=λw' j=>
  ⟨⟨g 0 4 rfl w' j,g 1 1 rfl w' j⟩,⟨g 2 100 rfl w' j,g 3 (-1) rfl w' j⟩,⟨g 4 400 rfl w' j,g 5 1 rfl w' j⟩⟩
 obtain⟨⟨T,Y⟩,_⟩:=rd w (Below.refl _ _)
 go_enter Tryz.func184,Tryz.ntmps184
 go_wp2_with fail
 refine wp_loop_rounds 4 ?_;rw[rounds_succ];have v1:wrap64 1=1:=by unfold wrap64;rfl
 have v2:wrap64 2=2:=by unfold wrap64;rfl
 have V:wrap64 3=3:=by unfold wrap64;rfl
 have E:Below w.heap.size w w:=Below.refl _ _;have O:Below w.heap.size w (w.alloc (.cells #[.int .i64 (4),.int .i64 (1)] 254)):=(Below.refl _ w).alloc (aV _) _;have s:Below w.heap.size w (w.alloc (.cells #[.int .i64 (4),.int .i64 (1)] 254)):=E.trans (O.mono E.size)
 go_wp2_with (go_at_call 166;refine(call hx _ (k.below s)).mono ?_)
 rintro v c ⟨rfl,C⟩;have l:c.cell? ⟨w.heap.size,1,none⟩=some (.int .i64 (1)):=by rw[pd C];rfl
 have u:=s.trans (C.mono s.size);obtain⟨_,⟨S,X⟩,_⟩:=rd c u
 go_wp2_with fail
 rw[rounds_succ];have J:Below c.heap.size c (c.alloc (.cells #[.int .i64 (100),.int .i64 (-1)] 254)):=(Below.refl _ c).alloc (aV _) _;have p:Below w.heap.size w (c.alloc (.cells #[.int .i64 (100),.int .i64 (-1)] 254)):=u.trans (J.mono u.size)
 go_wp2_with (go_at_call 166;refine(call hy _ (k.below p)).mono ?_)
 rintro v f ⟨rfl,D⟩;have R:f.cell? ⟨c.heap.size,1,none⟩=some (.int .i64 (-1)):=by rw[pd D];rfl
 have t:=p.trans (D.mono p.size);obtain⟨_,_,U,Q⟩:=rd f t
 go_wp2_with fail
 rw[rounds_succ];have c3:Below f.heap.size f (f.alloc (.cells #[.int .i64 (400),.int .i64 (1)] 254)):=(Below.refl _ f).alloc (aV _) _;have m:Below w.heap.size w (f.alloc (.cells #[.int .i64 (400),.int .i64 (1)] 254)):=t.trans (c3.mono t.size)
 go_wp2_with (go_at_call 166;refine(call B _ (k.below m)).mono ?_)
 rintro v M ⟨rfl,F⟩;have W:M.cell? ⟨f.heap.size,1,none⟩=some (.int .i64 (1)):=by rw[pd F];rfl
 have P:=m.trans (F.mono m.size)
 go_wp2_with fail
 rw[rounds_succ]
 go_wp2
 go_ret
 simp only[Int.one_mul,Int.neg_mul]at h;refine⟨.int .i64 r,?_,by simp only[VR],Below.fr P⟩;rw[<-h];rfl
end Go.Sh
