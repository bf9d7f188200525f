
/- years.before looks into a package-level slice: its walk, by hand.
   (Numbers of functions and variables are filled in by hg.sh.)
   Conditions: none. -/
import Derived.Test.YtfiponokimbeeaaGreatDoorHGm
set_option linter.unusedVariables false
set_option linter.unusedSimpArgs false
set_option maxRecDepth 100000
namespace Go.Sh
open Go.Abs Go.Proofs Go.RowKit
theorem LX {w:World} (n:GL gf w):∃b o,(∀w',Below w.heap.size w w'->w'.cell? ⟨5,0,none⟩=some (.slice (some ⟨b,o,none⟩) 3 3))/\
  ∀i z,Gy[i]?=some z->∀w',Below w.heap.size w w'->w'.cell? ⟨b,o+i,none⟩=some (.int .i64 z):=by
 obtain ⟨L,⟨E,y,m,q,B,s,l,k,b,o,⟨t,D,A,C,rfl,v⟩,F,u,g,j⟩,d,_⟩:=n;have k2:=d (5,.cells m l (0,0)) (by simp);have e:=d (b,.cells q k (0,0)) (by simp);have lt:∀{r:Nat} {x:Obj},w.heap[r]?=some x->r<w.heap.size:=by
  intro r x h;rcases aF r w.heap.size with a | a
  ·exact a
  ·rw [vN a] at h;cases h
 refine ⟨b,o,λw' c=>?_,λi z f w' c=>?_⟩
 ·rw [c.cell (p:=⟨_,_,none⟩) (lt k2),bf k2,g]
 ·rw [c.cell (p:=⟨_,_,none⟩) (lt e),bf e,j i z f]
theorem sd {w w':World} {c:Array Value} {e:TypeId} (a:Below (w.alloc (.cells c e)).heap.size (w.alloc (.cells c e)) w') (j:Nat):w'.cell? ⟨w.heap.size,j,none⟩=c[j]?:=by
 have h:w'.heap[w.heap.size]?=some (.cells c e (0,0)):=by
  rw [a.block _ (by show w.heap.size<(w.heap.push _).size;simp)];exact iQ w _
 exact bf h
set_option maxHeartbeats 8000000 in
theorem tV (n:Nat) (hc:∀(x y:Int) (r:Int×Int),kG n x y=some r->jN Tryz.prog 245 [.i .i64 x,.i .i64 y] (.tp [.i .i64 r.1,.i .i64 r.2])) (a:Int) (r:Int) (h:eS n a=some r):
  jN Tryz.prog 247 [.i .i64 a] (.i .i64 r):=by
 intro w J k hx;simp only [VRs,VR] at hx;obtain ⟨_,_,l,rfl,rfl⟩:=hx;have:J=#[.int .i64 a]:=by apply jQ;simpa using l
 subst this;clear l;simp only [eS] at h;obtain ⟨⟨x,ex⟩,hx,h⟩:=ar h;obtain ⟨⟨y,R⟩,hy,h⟩:=ar h;obtain ⟨⟨z,W⟩,t,h⟩:=ar h;simp only [ak] at h;have wr:∀v,IntKind.wrap .i64 v=wrap64 v:=λv=>by rw [EO];unfold wrap64;rfl
 simp only [wr] at hx hy t h;have call:∀{d q e:Int},kG n (wrap64 (a - 1)) d=some (q,e)->∀c:World,GL gf c->Calls Tryz.prog 245 #[.int .i64 (wrap64 (a - 1)),.int .i64 d] c λx w'=>x=.returned (.tuple #[.int .i64 q,.int .i64 e])/\Below c.heap.size c w':=by
  intro d q e H c s;refine (hc _ _ (q,e) H c _ s (by simp [VRs,VR])).mono λx w' ⟨y,E,B,C⟩=>?_;simp only [VR,VRs] at B;obtain ⟨P,rfl,_,_,D,rfl,_,_,rfl,rfl,rfl⟩:=B;refine ⟨?_,C.below⟩;rw [E];congr 2;apply jQ;simpa using D
 have mixed:Tryz.prog.follows .mixedOrders=true:=by kernel_rfl
 obtain ⟨b,o,k0,j⟩:=LX k;have s0:=k0 w (Below.refl _ _);have rd:∀w',Below w.heap.size w w'->(w'.cell? ⟨b,o,none⟩=some (.int .i64 4)/\w'.cell? ⟨b,o+1,none⟩=some (.int .i64 1))/\(w'.cell? ⟨b,o+2,none⟩=some (.int .i64 100)/\w'.cell? ⟨b,o+2+1,none⟩=some (.int .i64 (-1)))/\(w'.cell? ⟨b,o+4,none⟩=some (.int .i64 400)/\w'.cell? ⟨b,o+4+1,none⟩=some (.int .i64 1)):=λw' g=>
  ⟨⟨j 0 4 rfl w' g,j 1 1 rfl w' g⟩,⟨j 2 100 rfl w' g,j 3 (-1) rfl w' g⟩,⟨j 4 400 rfl w' g,j 5 1 rfl w' g⟩⟩
 obtain ⟨⟨X,U⟩,_⟩:=rd w (Below.refl _ _)
 go_enter Tryz.func247,Tryz.ntmps247
 go_wp2_with fail
 refine wp_loop_rounds 4 ?_;rw [rounds_succ];have Z:wrap64 1=1:=by unfold wrap64;rfl
 have Q:wrap64 2=2:=by unfold wrap64;rfl
 have T:wrap64 3=3:=by unfold wrap64;rfl
 have u:Below w.heap.size w w:=Below.refl _ _;have F:Below w.heap.size w (w.alloc (.cells #[.int .i64 (4),.int .i64 (1)] 332)):=(Below.refl _ w).alloc (aP _) _;have a1:Below w.heap.size w (w.alloc (.cells #[.int .i64 (4),.int .i64 (1)] 332)):=u.trans (F.mono u.size)
 go_wp2_with (go_at_call 245;refine (call hx _ (k.below a1)).mono ?_)
 rintro v c ⟨rfl,b1⟩;have l:c.cell? ⟨w.heap.size,1,none⟩=some (.int .i64 (1)):=by rw [sd b1];rfl
 have p:=a1.trans (b1.mono a1.size);obtain ⟨_,⟨V,O⟩,_⟩:=rd c p
 go_wp2_with fail
 rw [rounds_succ];have I:Below c.heap.size c (c.alloc (.cells #[.int .i64 (100),.int .i64 (-1)] 332)):=(Below.refl _ c).alloc (aP _) _;have a2:Below w.heap.size w (c.alloc (.cells #[.int .i64 (100),.int .i64 (-1)] 332)):=p.trans (I.mono p.size)
 go_wp2_with (go_at_call 245;refine (call hy _ (k.below a2)).mono ?_)
 rintro v f ⟨rfl,b2⟩;have N:f.cell? ⟨c.heap.size,1,none⟩=some (.int .i64 (-1)):=by rw [sd b2];rfl
 have d2:=a2.trans (b2.mono a2.size);obtain ⟨_,_,S,Y⟩:=rd f d2
 go_wp2_with fail
 rw [rounds_succ];have K:Below f.heap.size f (f.alloc (.cells #[.int .i64 (400),.int .i64 (1)] 332)):=(Below.refl _ f).alloc (aP _) _;have m:Below w.heap.size w (f.alloc (.cells #[.int .i64 (400),.int .i64 (1)] 332)):=d2.trans (K.mono d2.size)
 go_wp2_with (go_at_call 245;refine (call t _ (k.below m)).mono ?_)
 rintro v G ⟨rfl,A⟩;have M:G.cell? ⟨f.heap.size,1,none⟩=some (.int .i64 (1)):=by rw [sd A];rfl
 have L:=m.trans (A.mono m.size)
 go_wp2_with fail
 rw [rounds_succ]
 go_wp2
 go_ret
 simp only [Int.one_mul,Int.neg_mul] at h;refine ⟨.int .i64 r,?_,by simp only [VR],Below.fr L⟩;rw [<-h];rfl
end Go.Sh
