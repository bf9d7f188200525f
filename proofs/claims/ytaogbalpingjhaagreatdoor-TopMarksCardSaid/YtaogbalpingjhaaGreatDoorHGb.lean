
/- years.before looks into a package-level slice: its walk, by hand.
   (Numbers of functions and variables are filled in by hg.sh.)
   Conditions: none. -/
import Derived.Test.YtaogbalpingjhaaGreatDoorHGm
set_option linter.unusedVariables false
set_option linter.unusedSimpArgs false
set_option maxRecDepth 100000
namespace Go.Sh
open Go.Abs Go.Proofs Go.RowKit
theorem KC {w:World} (j:GL fP w):∃b o,(∀w',Below w.heap.size w w'->w'.cell? ⟨1,0,none⟩=some (.slice (some ⟨b,o,none⟩) 3 3))/\
  ∀i z,Dl[i]?=some z->∀w',Below w.heap.size w w'->w'.cell? ⟨b,o+i,none⟩=some (.int .i64 z):=by
 obtain ⟨L,⟨q,A,g,c3,E,B,k,f,b,o,⟨D,v,y,C,rfl,u⟩,t,s,n,m⟩,d,_⟩:=j;have k2:=d (1,.cells g k (0,0)) (by simp);have e:=d (b,.cells c3 f (0,0)) (by simp);have lt:∀{r:Nat} {x:Obj},w.heap[r]?=some x->r<w.heap.size:=by
  intro r x h;rcases aE r w.heap.size with a | a
  ·exact a
  ·rw [tZ a] at h;cases h
 refine ⟨b,o,λw' c=>?_,λi z l w' c=>?_⟩
 ·rw [c.cell (p:=⟨_,_,none⟩) (lt k2),aV k2,n]
 ·rw [c.cell (p:=⟨_,_,none⟩) (lt e),aV e,m i z l]
theorem pQ {w w':World} {c:Array Value} {e:TypeId} (a:Below (w.alloc (.cells c e)).heap.size (w.alloc (.cells c e)) w') (j:Nat):w'.cell? ⟨w.heap.size,j,none⟩=c[j]?:=by
 have h:w'.heap[w.heap.size]?=some (.cells c e (0,0)):=by
  rw [a.block _ (by show w.heap.size<(w.heap.push _).size;simp)];exact iq w _
 exact aV h
set_option maxHeartbeats 8000000 in
theorem rW (n:Nat) (hc:∀(x y:Int) (r:Int×Int),jY n x y=some r->jh Tryz.prog 183 [.i .i64 x,.i .i64 y] (.tp [.i .i64 r.1,.i .i64 r.2])) (a:Int) (r:Int) (h:ef n a=some r):
  jh Tryz.prog 120 [.i .i64 a] (.i .i64 r):=by
 intro w H k hx;simp only [VRs,VR] at hx;obtain ⟨_,_,m,rfl,rfl⟩:=hx;have:H=#[.int .i64 a]:=by apply jv;simpa using m
 subst this;clear m;simp only [ef] at h;obtain ⟨⟨x,ex⟩,hx,h⟩:=ak h;obtain ⟨⟨y,U⟩,hy,h⟩:=ak h;obtain ⟨⟨z,V⟩,t,h⟩:=ak h;simp only [ah] at h;have wr:∀v,IntKind.wrap .i64 v=wrap64 v:=λv=>by rw [DG];unfold wrap64;rfl
 simp only [wr] at hx hy t h;have call:∀{d q e:Int},jY n (wrap64 (a - 1)) d=some (q,e)->∀c:World,GL fP c->Calls Tryz.prog 183 #[.int .i64 (wrap64 (a - 1)),.int .i64 d] c λx w'=>x=.returned (.tuple #[.int .i64 q,.int .i64 e])/\Below c.heap.size c w':=by
  intro d q e K c p;refine (hc _ _ (q,e) K c _ p (by simp [VRs,VR])).mono λx w' ⟨y,E,B,I⟩=>?_;simp only [VR,VRs] at B;obtain ⟨P,rfl,_,_,J,rfl,_,_,rfl,rfl,rfl⟩:=B;refine ⟨?_,I.below⟩;rw [E];congr 2;apply jv;simpa using J
 have mixed:Tryz.prog.follows .mixedOrders=true:=by kernel_rfl
 obtain ⟨b,o,k0,j⟩:=KC k;have s0:=k0 w (Below.refl _ _);have rd:∀w',Below w.heap.size w w'->(w'.cell? ⟨b,o,none⟩=some (.int .i64 4)/\w'.cell? ⟨b,o+1,none⟩=some (.int .i64 1))/\(w'.cell? ⟨b,o+2,none⟩=some (.int .i64 100)/\w'.cell? ⟨b,o+2+1,none⟩=some (.int .i64 (-1)))/\(w'.cell? ⟨b,o+4,none⟩=some (.int .i64 400)/\w'.cell? ⟨b,o+4+1,none⟩=some (.int .i64 1)):=λw' g=>
  ⟨⟨j 0 4 rfl w' g,j 1 1 rfl w' g⟩,⟨j 2 100 rfl w' g,j 3 (-1) rfl w' g⟩,⟨j 4 400 rfl w' g,j 5 1 rfl w' g⟩⟩
 obtain ⟨⟨S,R⟩,_⟩:=rd w (Below.refl _ _)
 go_enter Tryz.func120,Tryz.ntmps120
 go_wp2_with fail
 refine wp_loop_rounds 4 ?_;rw [rounds_succ];have L:wrap64 1=1:=by unfold wrap64;rfl
 have O:wrap64 2=2:=by unfold wrap64;rfl
 have Q:wrap64 3=3:=by unfold wrap64;rfl
 have u:Below w.heap.size w w:=Below.refl _ _;have G:Below w.heap.size w (w.alloc (.cells #[.int .i64 (4),.int .i64 (1)] 244)):=(Below.refl _ w).alloc (aM _) _;have a1:Below w.heap.size w (w.alloc (.cells #[.int .i64 (4),.int .i64 (1)] 244)):=u.trans (G.mono u.size)
 go_wp2_with (go_at_call 183;refine (call hx _ (k.below a1)).mono ?_)
 rintro v c ⟨rfl,b1⟩;have m:c.cell? ⟨w.heap.size,1,none⟩=some (.int .i64 (1)):=by rw [pQ b1];rfl
 have s:=a1.trans (b1.mono a1.size);obtain ⟨_,⟨M,X⟩,_⟩:=rd c s
 go_wp2_with fail
 rw [rounds_succ];have C:Below c.heap.size c (c.alloc (.cells #[.int .i64 (100),.int .i64 (-1)] 244)):=(Below.refl _ c).alloc (aM _) _;have a2:Below w.heap.size w (c.alloc (.cells #[.int .i64 (100),.int .i64 (-1)] 244)):=s.trans (C.mono s.size)
 go_wp2_with (go_at_call 183;refine (call hy _ (k.below a2)).mono ?_)
 rintro v f ⟨rfl,b2⟩;have N:f.cell? ⟨c.heap.size,1,none⟩=some (.int .i64 (-1)):=by rw [pQ b2];rfl
 have d2:=a2.trans (b2.mono a2.size);obtain ⟨_,_,T,W⟩:=rd f d2
 go_wp2_with fail
 rw [rounds_succ];have c3:Below f.heap.size f (f.alloc (.cells #[.int .i64 (400),.int .i64 (1)] 244)):=(Below.refl _ f).alloc (aM _) _;have l:Below w.heap.size w (f.alloc (.cells #[.int .i64 (400),.int .i64 (1)] 244)):=d2.trans (c3.mono d2.size)
 go_wp2_with (go_at_call 183;refine (call t _ (k.below l)).mono ?_)
 rintro v F ⟨rfl,A⟩;have Y:F.cell? ⟨f.heap.size,1,none⟩=some (.int .i64 (1)):=by rw [pQ A];rfl
 have D:=l.trans (A.mono l.size)
 go_wp2_with fail
 rw [rounds_succ]
 go_wp2
 go_ret
 simp only [Int.one_mul,Int.neg_mul] at h;refine ⟨.int .i64 r,?_,by simp only [VR],Below.fr D⟩;rw [<-h];rfl
end Go.Sh
