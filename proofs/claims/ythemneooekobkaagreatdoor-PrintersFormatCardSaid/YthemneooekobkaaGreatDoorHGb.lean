
/- years.before looks into a package-level slice: its walk, by hand.
   (Numbers of functions and variables are filled in by hg.sh.)
   Conditions: none. -/
import Derived.Test.YthemneooekobkaaGreatDoorHGm
set_option linter.unusedVariables false
set_option linter.unusedSimpArgs false
set_option maxRecDepth 100000
namespace Go.Sh
open Go.Abs Go.Proofs Go.RowKit
theorem QR {w:World} (m:GL gS w):∃b o,(∀w',Below w.heap.size w w'->w'.cell? ⟨8,0,none⟩=some (.slice (some ⟨b,o,none⟩) 3 3))/\
  ∀i z,IB[i]?=some z->∀w',Below w.heap.size w w'->w'.cell? ⟨b,o+i,none⟩=some (.int .i64 z):=by
 obtain ⟨L,⟨u,s,n,j,y,D,e,f,b,o,⟨C,B,E,v,rfl,q⟩,A,t,g,l⟩,d,_⟩:=m;have k2:=d (8,.cells n e (0,0)) (by simp);have k3:=d (b,.cells j f (0,0)) (by simp);have lt:∀{r:Nat} {x:Obj},w.heap[r]?=some x->r<w.heap.size:=by
  intro r x h;rcases aH r w.heap.size with c | c
  ·exact c
  ·rw [wx c] at h;cases h
 refine ⟨b,o,λw' a=>?_,λi z k w' a=>?_⟩
 ·rw [a.cell (p:=⟨_,_,none⟩) (lt k2),bi k2,g]
 ·rw [a.cell (p:=⟨_,_,none⟩) (lt k3),bi k3,l i z k]
theorem tQ {w w':World} {c:Array Value} {e:TypeId} (a:Below (w.alloc (.cells c e)).heap.size (w.alloc (.cells c e)) w') (j:Nat):w'.cell? ⟨w.heap.size,j,none⟩=c[j]?:=by
 have h:w'.heap[w.heap.size]?=some (.cells c e (0,0)):=by
  rw [a.block _ (by show w.heap.size<(w.heap.push _).size;simp)];exact ko w _
 exact bi h
set_option maxHeartbeats 8000000 in
theorem vC (n:Nat) (hc:∀(x y:Int) (r:Int×Int),mu n x y=some r->nB Tryz.prog 273 [.i .i64 x,.i .i64 y] (.tp [.i .i64 r.1,.i .i64 r.2])) (a:Int) (r:Int) (h:fG n a=some r):
  nB Tryz.prog 300 [.i .i64 a] (.i .i64 r):=by
 intro w K k hx;simp only [VRs,VR] at hx;obtain ⟨_,_,s,rfl,rfl⟩:=hx;have:K=#[.int .i64 a]:=by apply lP;simpa using s
 subst this;clear s;simp only [fG] at h;obtain ⟨⟨x,ex⟩,hx,h⟩:=ax h;obtain ⟨⟨y,M⟩,hy,h⟩:=ax h;obtain ⟨⟨z,W⟩,A,h⟩:=ax h;simp only [av] at h;have wr:∀v,IntKind.wrap .i64 v=wrap64 v:=λv=>by rw [HS];unfold wrap64;rfl
 simp only [wr] at hx hy A h;have call:∀{d q e:Int},mu n (wrap64 (a - 1)) d=some (q,e)->∀c:World,GL gS c->Calls Tryz.prog 273 #[.int .i64 (wrap64 (a - 1)),.int .i64 d] c λx w'=>x=.returned (.tuple #[.int .i64 q,.int .i64 e])/\Below c.heap.size c w':=by
  intro d q e G c m;refine (hc _ _ (q,e) G c _ m (by simp [VRs,VR])).mono λx w' ⟨y,I,u,J⟩=>?_;simp only [VR,VRs] at u;obtain ⟨V,rfl,_,_,E,rfl,_,_,rfl,rfl,rfl⟩:=u;refine ⟨?_,J.below⟩;rw [I];congr 2;apply lP;simpa using E
 have mixed:Tryz.prog.follows .mixedOrders=true:=by kernel_rfl
 obtain ⟨b,o,k0,j⟩:=QR k;have s0:=k0 w (Below.refl _ _);have rd:∀w',Below w.heap.size w w'->(w'.cell? ⟨b,o,none⟩=some (.int .i64 4)/\w'.cell? ⟨b,o+1,none⟩=some (.int .i64 1))/\(w'.cell? ⟨b,o+2,none⟩=some (.int .i64 100)/\w'.cell? ⟨b,o+2+1,none⟩=some (.int .i64 (-1)))/\(w'.cell? ⟨b,o+4,none⟩=some (.int .i64 400)/\w'.cell? ⟨b,o+4+1,none⟩=some (.int .i64 1)):=λw' g=>
  ⟨⟨j 0 4 rfl w' g,j 1 1 rfl w' g⟩,⟨j 2 100 rfl w' g,j 3 (-1) rfl w' g⟩,⟨j 4 400 rfl w' g,j 5 1 rfl w' g⟩⟩
 obtain ⟨⟨U,Q⟩,_⟩:=rd w (Below.refl _ _)
 go_enter Tryz.func300,Tryz.ntmps300
 go_wp2_with fail
 refine wp_loop_rounds 4 ?_;rw [rounds_succ];have Y:wrap64 1=1:=by unfold wrap64;rfl
 have Z:wrap64 2=2:=by unfold wrap64;rfl
 have O:wrap64 3=3:=by unfold wrap64;rfl
 have t:Below w.heap.size w w:=Below.refl _ _;have D:Below w.heap.size w (w.alloc (.cells #[.int .i64 (4),.int .i64 (1)] 352)):=(Below.refl _ w).alloc (aX _) _;have a1:Below w.heap.size w (w.alloc (.cells #[.int .i64 (4),.int .i64 (1)] 352)):=t.trans (D.mono t.size)
 go_wp2_with (go_at_call 273;refine (call hx _ (k.below a1)).mono ?_)
 rintro v c ⟨rfl,b1⟩;have s:c.cell? ⟨w.heap.size,1,none⟩=some (.int .i64 (1)):=by rw [tQ b1];rfl
 have p:=a1.trans (b1.mono a1.size);obtain ⟨_,⟨N,R⟩,_⟩:=rd c p
 go_wp2_with fail
 rw [rounds_succ];have L:Below c.heap.size c (c.alloc (.cells #[.int .i64 (100),.int .i64 (-1)] 352)):=(Below.refl _ c).alloc (aX _) _;have a2:Below w.heap.size w (c.alloc (.cells #[.int .i64 (100),.int .i64 (-1)] 352)):=p.trans (L.mono p.size)
 go_wp2_with (go_at_call 273;refine (call hy _ (k.below a2)).mono ?_)
 rintro v f ⟨rfl,b2⟩;have T:f.cell? ⟨c.heap.size,1,none⟩=some (.int .i64 (-1)):=by rw [tQ b2];rfl
 have d2:=a2.trans (b2.mono a2.size);obtain ⟨_,_,X,S⟩:=rd f d2
 go_wp2_with fail
 rw [rounds_succ];have H:Below f.heap.size f (f.alloc (.cells #[.int .i64 (400),.int .i64 (1)] 352)):=(Below.refl _ f).alloc (aX _) _;have l:Below w.heap.size w (f.alloc (.cells #[.int .i64 (400),.int .i64 (1)] 352)):=d2.trans (H.mono d2.size)
 go_wp2_with (go_at_call 273;refine (call A _ (k.below l)).mono ?_)
 rintro v F ⟨rfl,B⟩;have P:F.cell? ⟨f.heap.size,1,none⟩=some (.int .i64 (1)):=by rw [tQ B];rfl
 have C:=l.trans (B.mono l.size)
 go_wp2_with fail
 rw [rounds_succ]
 go_wp2
 go_ret
 simp only [Int.one_mul,Int.neg_mul] at h;refine ⟨.int .i64 r,?_,by simp only [VR],Below.fr C⟩;rw [<-h];rfl
end Go.Sh
