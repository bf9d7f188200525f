
/- years.before looks into a package-level slice: its walk, by hand.
   (Numbers of functions and variables are filled in by hg.sh.)
   Conditions: none. -/
import Derived.Test.YthemneooekobkaaGreatDoorHGm
set_option linter.unusedVariables false
set_option linter.unusedSimpArgs false
set_option maxRecDepth 100000
namespace Go.Sh
open Go.Abs Go.Proofs Go.RowKit
theorem Py {w:World} (l:GL jI w):∃b o,(∀w',Below w.heap.size w w'->w'.cell? ⟨8,0,none⟩=some (.slice (some ⟨b,o,none⟩) 3 3))/\
  ∀i z,HN[i]?=some z->∀w',Below w.heap.size w w'->w'.cell? ⟨b,o+i,none⟩=some (.int .i64 z):=by
 obtain ⟨L,⟨y,s,m,f,v,D,n,j,b,o,⟨c4,C,A,t,rfl,u⟩,B,q,k,g⟩,d,_⟩:=l;have k2:=d (8,.cells m n (0,0)) (by simp);have k3:=d (b,.cells f j (0,0)) (by simp);have lt:∀{r:Nat} {x:Obj},w.heap[r]?=some x->r<w.heap.size:=by
  intro r x h;rcases aI r w.heap.size with c | c
  ·exact c
  ·rw [vU c] at h;cases h
 refine ⟨b,o,λw' a=>?_,λi z e w' a=>?_⟩
 ·rw [a.cell (p:=⟨_,_,none⟩) (lt k2),bA k2,k]
 ·rw [a.cell (p:=⟨_,_,none⟩) (lt k3),bA k3,g i z e]
theorem tO {w w':World} {c:Array Value} {e:TypeId} (a:Below (w.alloc (.cells c e)).heap.size (w.alloc (.cells c e)) w') (j:Nat):w'.cell? ⟨w.heap.size,j,none⟩=c[j]?:=by
 have h:w'.heap[w.heap.size]?=some (.cells c e (0,0)):=by
  rw [a.block _ (by show w.heap.size<(w.heap.push _).size;simp)];exact mc w _
 exact bA h
set_option maxHeartbeats 8000000 in
theorem vj (n:Nat) (hc:∀(x y:Int) (r:Int×Int),l7 n x y=some r->nZ Tryz.prog 273 [.i .i64 x,.i .i64 y] (.tp [.i .i64 r.1,.i .i64 r.2])) (a:Int) (r:Int) (h:fB n a=some r):
  nZ Tryz.prog 300 [.i .i64 a] (.i .i64 r):=by
 intro w K k hx;simp only [VRs,VR] at hx;obtain ⟨_,_,p,rfl,rfl⟩:=hx;have:K=#[.int .i64 a]:=by apply m6;simpa using p
 subst this;clear p;simp only [fB] at h;obtain ⟨⟨x,ex⟩,hx,h⟩:=ay h;obtain ⟨⟨y,P⟩,hy,h⟩:=ay h;obtain ⟨⟨z,O⟩,t,h⟩:=ay h;simp only [aw] at h;have wr:∀v,IntKind.wrap .i64 v=wrap64 v:=λv=>by rw [Is];unfold wrap64;rfl
 simp only [wr] at hx hy t h;have call:∀{d q e:Int},l7 n (wrap64 (a - 1)) d=some (q,e)->∀c:World,GL jI c->Calls Tryz.prog 273 #[.int .i64 (wrap64 (a - 1)),.int .i64 d] c λx w'=>x=.returned (.tuple #[.int .i64 q,.int .i64 e])/\Below c.heap.size c w':=by
  intro d q e G c s;refine (hc _ _ (q,e) G c _ s (by simp [VRs,VR])).mono λx w' ⟨y,D,u,I⟩=>?_;simp only [VR,VRs] at u;obtain ⟨N,rfl,_,_,F,rfl,_,_,rfl,rfl,rfl⟩:=u;refine ⟨?_,I.below⟩;rw [D];congr 2;apply m6;simpa using F
 have mixed:Tryz.prog.follows .mixedOrders=true:=by kernel_rfl
 obtain ⟨b,o,k0,j⟩:=Py k;have s0:=k0 w (Below.refl _ _);have rd:∀w',Below w.heap.size w w'->(w'.cell? ⟨b,o,none⟩=some (.int .i64 4)/\w'.cell? ⟨b,o+1,none⟩=some (.int .i64 1))/\(w'.cell? ⟨b,o+2,none⟩=some (.int .i64 100)/\w'.cell? ⟨b,o+2+1,none⟩=some (.int .i64 (-1)))/\(w'.cell? ⟨b,o+4,none⟩=some (.int .i64 400)/\w'.cell? ⟨b,o+4+1,none⟩=some (.int .i64 1)):=λw' g=>
  ⟨⟨j 0 4 rfl w' g,j 1 1 rfl w' g⟩,⟨j 2 100 rfl w' g,j 3 (-1) rfl w' g⟩,⟨j 4 400 rfl w' g,j 5 1 rfl w' g⟩⟩
 obtain ⟨⟨Q,T⟩,_⟩:=rd w (Below.refl _ _)
 go_enter Tryz.func300,Tryz.ntmps300
 go_wp2_with fail
 refine wp_loop_rounds 4 ?_;rw [rounds_succ];have M:wrap64 1=1:=by unfold wrap64;rfl
 have X:wrap64 2=2:=by unfold wrap64;rfl
 have Z:wrap64 3=3:=by unfold wrap64;rfl
 have B:Below w.heap.size w w:=Below.refl _ _;have C:Below w.heap.size w (w.alloc (.cells #[.int .i64 (4),.int .i64 (1)] 352)):=(Below.refl _ w).alloc (bi _) _;have a1:Below w.heap.size w (w.alloc (.cells #[.int .i64 (4),.int .i64 (1)] 352)):=B.trans (C.mono B.size)
 go_wp2_with (go_at_call 273;refine (call hx _ (k.below a1)).mono ?_)
 rintro v c ⟨rfl,b1⟩;have p:c.cell? ⟨w.heap.size,1,none⟩=some (.int .i64 (1)):=by rw [tO b1];rfl
 have m:=a1.trans (b1.mono a1.size);obtain ⟨_,⟨Y,S⟩,_⟩:=rd c m
 go_wp2_with fail
 rw [rounds_succ];have L:Below c.heap.size c (c.alloc (.cells #[.int .i64 (100),.int .i64 (-1)] 352)):=(Below.refl _ c).alloc (bi _) _;have a2:Below w.heap.size w (c.alloc (.cells #[.int .i64 (100),.int .i64 (-1)] 352)):=m.trans (L.mono m.size)
 go_wp2_with (go_at_call 273;refine (call hy _ (k.below a2)).mono ?_)
 rintro v f ⟨rfl,b2⟩;have R:f.cell? ⟨c.heap.size,1,none⟩=some (.int .i64 (-1)):=by rw [tO b2];rfl
 have d2:=a2.trans (b2.mono a2.size);obtain ⟨_,_,W,U⟩:=rd f d2
 go_wp2_with fail
 rw [rounds_succ];have E:Below f.heap.size f (f.alloc (.cells #[.int .i64 (400),.int .i64 (1)] 352)):=(Below.refl _ f).alloc (bi _) _;have l:Below w.heap.size w (f.alloc (.cells #[.int .i64 (400),.int .i64 (1)] 352)):=d2.trans (E.mono d2.size)
 go_wp2_with (go_at_call 273;refine (call t _ (k.below l)).mono ?_)
 rintro v H ⟨rfl,A⟩;have V:H.cell? ⟨f.heap.size,1,none⟩=some (.int .i64 (1)):=by rw [tO A];rfl
 have J:=l.trans (A.mono l.size)
 go_wp2_with fail
 rw [rounds_succ]
 go_wp2
 go_ret
 simp only [Int.one_mul,Int.neg_mul] at h;refine ⟨.int .i64 r,?_,by simp only [VR],Below.fr J⟩;rw [<-h];rfl
end Go.Sh
