
/- years.before looks into a package-level slice: its walk, by hand.
   (Numbers of functions and variables are filled in by hg.sh.)
   Conditions: none. -/
import Derived.Test.YtfiponokimbeeaaGreatDoorHGm
set_option linter.unusedVariables false
set_option linter.unusedSimpArgs false
set_option maxRecDepth 100000
namespace Go.Sh
open Go.Abs Go.Proofs Go.RowKit
theorem PU {w:World} (q:GL ie w):∃b o,(∀w',Below w.heap.size w w'->w'.cell? ⟨5,0,none⟩=some (.slice (some ⟨b,o,none⟩) 3 3))/\
  ∀i z,GT[i]?=some z->∀w',Below w.heap.size w w'->w'.cell? ⟨b,o+i,none⟩=some (.int .i64 z):=by
 obtain ⟨L,⟨u,v,m,n,A,s,f,g,b,o,⟨c4,y,C,B,rfl,D⟩,E,t,k,l⟩,d,_⟩:=q;have k2:=d (5,.cells m f (0,0)) (by simp);have e:=d (b,.cells n g (0,0)) (by simp);have lt:∀{r:Nat} {x:Obj},w.heap[r]?=some x->r<w.heap.size:=by
  intro r x h;rcases aH r w.heap.size with c | c
  ·exact c
  ·rw [wR c] at h;cases h
 refine ⟨b,o,λw' a=>?_,λi z j w' a=>?_⟩
 ·rw [a.cell (p:=⟨_,_,none⟩) (lt k2),bp k2,k]
 ·rw [a.cell (p:=⟨_,_,none⟩) (lt e),bp e,l i z j]
theorem sN {w w':World} {c:Array Value} {e:TypeId} (a:Below (w.alloc (.cells c e)).heap.size (w.alloc (.cells c e)) w') (j:Nat):w'.cell? ⟨w.heap.size,j,none⟩=c[j]?:=by
 have h:w'.heap[w.heap.size]?=some (.cells c e (0,0)):=by
  rw [a.block _ (by show w.heap.size<(w.heap.push _).size;simp)];exact jW w _
 exact bp h
set_option maxHeartbeats 8000000 in
theorem uZ (n:Nat) (hc:∀(x y:Int) (r:Int×Int),l6 n x y=some r->lk Tryz.prog 245 [.i .i64 x,.i .i64 y] (.tp [.i .i64 r.1,.i .i64 r.2])) (a:Int) (r:Int) (h:fA n a=some r):
  lk Tryz.prog 247 [.i .i64 a] (.i .i64 r):=by
 intro w D k hx;simp only [VRs,VR] at hx;obtain ⟨_,_,p,rfl,rfl⟩:=hx;have:D=#[.int .i64 a]:=by apply ll;simpa using p
 subst this;clear p;simp only [fA] at h;obtain ⟨⟨x,ex⟩,hx,h⟩:=av h;obtain ⟨⟨y,T⟩,hy,h⟩:=av h;obtain ⟨⟨z,N⟩,u,h⟩:=av h;simp only [au] at h;have wr:∀v,IntKind.wrap .i64 v=wrap64 v:=λv=>by rw [Gw];unfold wrap64;rfl
 simp only [wr] at hx hy u h;have call:∀{d q e:Int},l6 n (wrap64 (a - 1)) d=some (q,e)->∀c:World,GL ie c->Calls Tryz.prog 245 #[.int .i64 (wrap64 (a - 1)),.int .i64 d] c λx w'=>x=.returned (.tuple #[.int .i64 q,.int .i64 e])/\Below c.heap.size c w':=by
  intro d q e H c m;refine (hc _ _ (q,e) H c _ m (by simp [VRs,VR])).mono λx w' ⟨y,G,t,F⟩=>?_;simp only [VR,VRs] at t;obtain ⟨R,rfl,_,_,I,rfl,_,_,rfl,rfl,rfl⟩:=t;refine ⟨?_,F.below⟩;rw [G];congr 2;apply ll;simpa using I
 have mixed:Tryz.prog.follows .mixedOrders=true:=by kernel_rfl
 obtain ⟨b,o,k0,g⟩:=PU k;have s0:=k0 w (Below.refl _ _);have rd:∀w',Below w.heap.size w w'->(w'.cell? ⟨b,o,none⟩=some (.int .i64 4)/\w'.cell? ⟨b,o+1,none⟩=some (.int .i64 1))/\(w'.cell? ⟨b,o+2,none⟩=some (.int .i64 100)/\w'.cell? ⟨b,o+2+1,none⟩=some (.int .i64 (-1)))/\(w'.cell? ⟨b,o+4,none⟩=some (.int .i64 400)/\w'.cell? ⟨b,o+4+1,none⟩=some (.int .i64 1)):=λw' j=>
  ⟨⟨g 0 4 rfl w' j,g 1 1 rfl w' j⟩,⟨g 2 100 rfl w' j,g 3 (-1) rfl w' j⟩,⟨g 4 400 rfl w' j,g 5 1 rfl w' j⟩⟩
 obtain ⟨⟨M,Z⟩,_⟩:=rd w (Below.refl _ _)
 go_enter Tryz.func247,Tryz.ntmps247
 go_wp2_with fail
 refine wp_loop_rounds 4 ?_;rw [rounds_succ];have S:wrap64 1=1:=by unfold wrap64;rfl
 have U:wrap64 2=2:=by unfold wrap64;rfl
 have O:wrap64 3=3:=by unfold wrap64;rfl
 have A:Below w.heap.size w w:=Below.refl _ _;have C:Below w.heap.size w (w.alloc (.cells #[.int .i64 (4),.int .i64 (1)] 332)):=(Below.refl _ w).alloc (aY _) _;have a1:Below w.heap.size w (w.alloc (.cells #[.int .i64 (4),.int .i64 (1)] 332)):=A.trans (C.mono A.size)
 go_wp2_with (go_at_call 245;refine (call hx _ (k.below a1)).mono ?_)
 rintro v c ⟨rfl,b1⟩;have p:c.cell? ⟨w.heap.size,1,none⟩=some (.int .i64 (1)):=by rw [sN b1];rfl
 have l:=a1.trans (b1.mono a1.size);obtain ⟨_,⟨P,Y⟩,_⟩:=rd c l
 go_wp2_with fail
 rw [rounds_succ];have E:Below c.heap.size c (c.alloc (.cells #[.int .i64 (100),.int .i64 (-1)] 332)):=(Below.refl _ c).alloc (aY _) _;have a2:Below w.heap.size w (c.alloc (.cells #[.int .i64 (100),.int .i64 (-1)] 332)):=l.trans (E.mono l.size)
 go_wp2_with (go_at_call 245;refine (call hy _ (k.below a2)).mono ?_)
 rintro v f ⟨rfl,b2⟩;have W:f.cell? ⟨c.heap.size,1,none⟩=some (.int .i64 (-1)):=by rw [sN b2];rfl
 have d2:=a2.trans (b2.mono a2.size);obtain ⟨_,_,Q,V⟩:=rd f d2
 go_wp2_with fail
 rw [rounds_succ];have J:Below f.heap.size f (f.alloc (.cells #[.int .i64 (400),.int .i64 (1)] 332)):=(Below.refl _ f).alloc (aY _) _;have s:Below w.heap.size w (f.alloc (.cells #[.int .i64 (400),.int .i64 (1)] 332)):=d2.trans (J.mono d2.size)
 go_wp2_with (go_at_call 245;refine (call u _ (k.below s)).mono ?_)
 rintro v K ⟨rfl,B⟩;have X:K.cell? ⟨f.heap.size,1,none⟩=some (.int .i64 (1)):=by rw [sN B];rfl
 have L:=s.trans (B.mono s.size)
 go_wp2_with fail
 rw [rounds_succ]
 go_wp2
 go_ret
 simp only [Int.one_mul,Int.neg_mul] at h;refine ⟨.int .i64 r,?_,by simp only [VR],Below.fr L⟩;rw [<-h];rfl
end Go.Sh
