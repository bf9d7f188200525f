
/- years.before looks into a package-level slice: its walk, by hand.
   (Numbers of functions and variables are filled in by hg.sh.)
   Conditions: none. -/
import Derived.Test.YthemneooekobkaaGreatDoorHGm
set_option linter.unusedVariables false
set_option linter.unusedSimpArgs false
set_option maxRecDepth 100000
namespace Go.Sh
open Go.Abs Go.Proofs Go.RowKit
theorem KX {w:World} (n:GL iM w):∃b o,(∀w',Below w.heap.size w w'->w'.cell? ⟨8,0,none⟩=some (.slice (some ⟨b,o,none⟩) 3 3))/\
  ∀i z,Dw[i]?=some z->∀w',Below w.heap.size w w'->w'.cell? ⟨b,o+i,none⟩=some (.int .i64 z):=by
 obtain ⟨L,⟨B,D,g,c3,v,q,l,f,b,o,⟨y,s,E,A,rfl,u⟩,C,t,m,k⟩,e,_⟩:=n;have k2:=e (8,.cells g l (0,0)) (by simp);have d:=e (b,.cells c3 f (0,0)) (by simp);have lt:∀{r:Nat} {x:Obj},w.heap[r]?=some x->r<w.heap.size:=by
  intro r x h;rcases aF r w.heap.size with c | c
  ·exact c
  ·rw [tQ c] at h;cases h
 refine ⟨b,o,λw' a=>?_,λi z j w' a=>?_⟩
 ·rw [a.cell (p:=⟨_,_,none⟩) (lt k2),bz k2,m]
 ·rw [a.cell (p:=⟨_,_,none⟩) (lt d),bz d,k i z j]
theorem qt {w w':World} {c:Array Value} {e:TypeId} (a:Below (w.alloc (.cells c e)).heap.size (w.alloc (.cells c e)) w') (j:Nat):w'.cell? ⟨w.heap.size,j,none⟩=c[j]?:=by
 have h:w'.heap[w.heap.size]?=some (.cells c e (0,0)):=by
  rw [a.block _ (by show w.heap.size<(w.heap.push _).size;simp)];exact ku w _
 exact bz h
set_option maxHeartbeats 8000000 in
theorem sg (n:Nat) (hc:∀(x y:Int) (r:Int×Int),ki n x y=some r->jP Tryz.prog 273 [.i .i64 x,.i .i64 y] (.tp [.i .i64 r.1,.i .i64 r.2])) (a:Int) (r:Int) (h:eI n a=some r):
  jP Tryz.prog 300 [.i .i64 a] (.i .i64 r):=by
 intro w M l k;simp only [VRs,VR] at k;obtain ⟨_,_,t,rfl,rfl⟩:=k;have:M=#[.int .i64 a]:=by apply kY;simpa using t
 subst this;clear t;simp only [eI] at h;obtain ⟨⟨x,ex⟩,k,h⟩:=av h;obtain ⟨⟨y,P⟩,B,h⟩:=av h;obtain ⟨⟨z,V⟩,u,h⟩:=av h;simp only [aq] at h;have wr:∀v,IntKind.wrap .i64 v=wrap64 v:=λv=>by rw [Di];unfold wrap64;rfl
 simp only [wr] at k B u h;have call:∀{d q e:Int},ki n (wrap64 (a - 1)) d=some (q,e)->∀c:World,GL iM c->Calls Tryz.prog 273 #[.int .i64 (wrap64 (a - 1)),.int .i64 d] c λx w'=>x=.returned (.tuple #[.int .i64 q,.int .i64 e])/\Below c.heap.size c w':=by
  intro d q e G c s;refine (hc _ _ (q,e) G c _ s (by simp [VRs,VR])).mono λx w' ⟨y,I,C,J⟩=>?_;simp only [VR,VRs] at C;obtain ⟨N,rfl,_,_,F,rfl,_,_,rfl,rfl,rfl⟩:=C;refine ⟨?_,J.below⟩;rw [I];congr 2;apply kY;simpa using F
 have mixed:Tryz.prog.follows .mixedOrders=true:=by kernel_rfl
 obtain ⟨b,o,k0,j⟩:=KX l;have s0:=k0 w (Below.refl _ _);have rd:∀w',Below w.heap.size w w'->(w'.cell? ⟨b,o,none⟩=some (.int .i64 4)/\w'.cell? ⟨b,o+1,none⟩=some (.int .i64 1))/\(w'.cell? ⟨b,o+2,none⟩=some (.int .i64 100)/\w'.cell? ⟨b,o+2+1,none⟩=some (.int .i64 (-1)))/\(w'.cell? ⟨b,o+4,none⟩=some (.int .i64 400)/\w'.cell? ⟨b,o+4+1,none⟩=some (.int .i64 1)):=λw' g=>
  ⟨⟨j 0 4 rfl w' g,j 1 1 rfl w' g⟩,⟨j 2 100 rfl w' g,j 3 (-1) rfl w' g⟩,⟨j 4 400 rfl w' g,j 5 1 rfl w' g⟩⟩
 obtain ⟨⟨X,Q⟩,_⟩:=rd w (Below.refl _ _)
 go_enter Tryz.func300,Tryz.ntmps300
 go_wp2_with fail
 refine wp_loop_rounds 4 ?_;rw [rounds_succ];have Z:wrap64 1=1:=by unfold wrap64;rfl
 have U:wrap64 2=2:=by unfold wrap64;rfl
 have T:wrap64 3=3:=by unfold wrap64;rfl
 have A:Below w.heap.size w w:=Below.refl _ _;have L:Below w.heap.size w (w.alloc (.cells #[.int .i64 (4),.int .i64 (1)] 352)):=(Below.refl _ w).alloc (aU _) _;have a1:Below w.heap.size w (w.alloc (.cells #[.int .i64 (4),.int .i64 (1)] 352)):=A.trans (L.mono A.size)
 go_wp2_with (go_at_call 273;refine (call k _ (l.below a1)).mono ?_)
 rintro v c ⟨rfl,b1⟩;have t:c.cell? ⟨w.heap.size,1,none⟩=some (.int .i64 (1)):=by rw [qt b1];rfl
 have m:=a1.trans (b1.mono a1.size);obtain ⟨_,⟨O,S⟩,_⟩:=rd c m
 go_wp2_with fail
 rw [rounds_succ];have E:Below c.heap.size c (c.alloc (.cells #[.int .i64 (100),.int .i64 (-1)] 352)):=(Below.refl _ c).alloc (aU _) _;have a2:Below w.heap.size w (c.alloc (.cells #[.int .i64 (100),.int .i64 (-1)] 352)):=m.trans (E.mono m.size)
 go_wp2_with (go_at_call 273;refine (call B _ (l.below a2)).mono ?_)
 rintro v f ⟨rfl,b2⟩;have R:f.cell? ⟨c.heap.size,1,none⟩=some (.int .i64 (-1)):=by rw [qt b2];rfl
 have d2:=a2.trans (b2.mono a2.size);obtain ⟨_,_,f4,W⟩:=rd f d2
 go_wp2_with fail
 rw [rounds_succ];have c3:Below f.heap.size f (f.alloc (.cells #[.int .i64 (400),.int .i64 (1)] 352)):=(Below.refl _ f).alloc (aU _) _;have p:Below w.heap.size w (f.alloc (.cells #[.int .i64 (400),.int .i64 (1)] 352)):=d2.trans (c3.mono d2.size)
 go_wp2_with (go_at_call 273;refine (call u _ (l.below p)).mono ?_)
 rintro v K ⟨rfl,D⟩;have Y:K.cell? ⟨f.heap.size,1,none⟩=some (.int .i64 (1)):=by rw [qt D];rfl
 have H:=p.trans (D.mono p.size)
 go_wp2_with fail
 rw [rounds_succ]
 go_wp2
 go_ret
 simp only [Int.one_mul,Int.neg_mul] at h;refine ⟨.int .i64 r,?_,by simp only [VR],Below.fr H⟩;rw [<-h];rfl
end Go.Sh
