
/- years.before looks into a package-level slice: its walk, by hand.
   (Numbers of functions and variables are filled in by hg.sh.)
   Conditions: none. -/
import Derived.Test.YthemneooekobkaaGreatDoorHGm
set_option linter.unusedVariables false
set_option linter.unusedSimpArgs false
set_option maxRecDepth 100000
namespace Go.Sh
open Go.Abs Go.Proofs Go.RowKit
theorem LO {w:World} (g:GL fm w):∃b o,(∀w',Below w.heap.size w w'->w'.cell? ⟨8,0,none⟩=some (.slice (some ⟨b,o,none⟩) 3 3))/\
  ∀i z,D3[i]?=some z->∀w',Below w.heap.size w w'->w'.cell? ⟨b,o+i,none⟩=some (.int .i64 z):=by
 obtain ⟨L,⟨y,t,n,l,D,q,f,k,b,o,⟨B,u,A,s,rfl,v⟩,C,E,m,e⟩,d,_⟩:=g;have k2:=d (8,.cells n f (0,0)) (by simp);have k3:=d (b,.cells l k (0,0)) (by simp);have lt:∀{r:Nat} {x:Obj},w.heap[r]?=some x->r<w.heap.size:=by
  intro r x h;rcases aH r w.heap.size with c | c
  ·exact c
  ·rw [tz c] at h;cases h
 refine ⟨b,o,λw' a=>?_,λi z j w' a=>?_⟩
 ·rw [a.cell (p:=⟨_,_,none⟩) (lt k2),aX k2,m]
 ·rw [a.cell (p:=⟨_,_,none⟩) (lt k3),aX k3,e i z j]
theorem qR {w w':World} {c:Array Value} {e:TypeId} (a:Below (w.alloc (.cells c e)).heap.size (w.alloc (.cells c e)) w') (j:Nat):w'.cell? ⟨w.heap.size,j,none⟩=c[j]?:=by
 have h:w'.heap[w.heap.size]?=some (.cells c e (0,0)):=by
  rw [a.block _ (by show w.heap.size<(w.heap.push _).size;simp)];exact iY w _
 exact aX h
set_option maxHeartbeats 8000000 in
theorem sR (n:Nat) (hc:∀(x y:Int) (r:Int×Int),kI n x y=some r->lC Tryz.prog 273 [.i .i64 x,.i .i64 y] (.tp [.i .i64 r.1,.i .i64 r.2])) (a:Int) (r:Int) (h:ef n a=some r):
  lC Tryz.prog 300 [.i .i64 a] (.i .i64 r):=by
 intro w O k hx;simp only [VRs,VR] at hx;obtain ⟨_,_,A,rfl,rfl⟩:=hx;have:O=#[.int .i64 a]:=by apply jZ;simpa using A
 subst this;clear A;simp only [ef] at h;obtain ⟨⟨x,ex⟩,hx,h⟩:=au h;obtain ⟨⟨y,ey⟩,hy,h⟩:=au h;obtain ⟨⟨z,U⟩,C,h⟩:=au h;simp only [am] at h;have wr:∀v,IntKind.wrap .i64 v=wrap64 v:=λv=>by rw [ES];unfold wrap64;rfl
 simp only [wr] at hx hy C h;have call:∀{d q e:Int},kI n (wrap64 (a - 1)) d=some (q,e)->∀c:World,GL fm c->Calls Tryz.prog 273 #[.int .i64 (wrap64 (a - 1)),.int .i64 d] c λx w'=>x=.returned (.tuple #[.int .i64 q,.int .i64 e])/\Below c.heap.size c w':=by
  intro d q e I c u;refine (hc _ _ (q,e) I c _ u (by simp [VRs,VR])).mono λx w' ⟨y,P,B,H⟩=>?_;simp only [VR,VRs] at B;obtain ⟨cs,rfl,_,_,Q,rfl,_,_,rfl,rfl,rfl⟩:=B;refine ⟨?_,H.below⟩;rw [P];congr 2;apply jZ;simpa using Q
 have mixed:Tryz.prog.follows .mixedOrders=true:=by kernel_rfl
 obtain ⟨b,o,k0,g⟩:=LO k;have s0:=k0 w (Below.refl _ _);have rd:∀w',Below w.heap.size w w'->(w'.cell? ⟨b,o,none⟩=some (.int .i64 4)/\w'.cell? ⟨b,o+1,none⟩=some (.int .i64 1))/\(w'.cell? ⟨b,o+2,none⟩=some (.int .i64 100)/\w'.cell? ⟨b,o+2+1,none⟩=some (.int .i64 (-1)))/\(w'.cell? ⟨b,o+4,none⟩=some (.int .i64 400)/\w'.cell? ⟨b,o+4+1,none⟩=some (.int .i64 1)):=λw' j=>
  ⟨⟨g 0 4 rfl w' j,g 1 1 rfl w' j⟩,⟨g 2 100 rfl w' j,g 3 (-1) rfl w' j⟩,⟨g 4 400 rfl w' j,g 5 1 rfl w' j⟩⟩
 obtain ⟨⟨R,f1⟩,_⟩:=rd w (Below.refl _ _)
 go_enter Tryz.func300,Tryz.ntmps300
 go_wp2_with fail
 refine wp_loop_rounds 4 ?_;rw [rounds_succ];have T:wrap64 1=1:=by unfold wrap64;rfl
 have Y:wrap64 2=2:=by unfold wrap64;rfl
 have v3:wrap64 3=3:=by unfold wrap64;rfl
 have D:Below w.heap.size w w:=Below.refl _ _;have K:Below w.heap.size w (w.alloc (.cells #[.int .i64 (4),.int .i64 (1)] 352)):=(Below.refl _ w).alloc (aW _) _;have s:Below w.heap.size w (w.alloc (.cells #[.int .i64 (4),.int .i64 (1)] 352)):=D.trans (K.mono D.size)
 go_wp2_with (go_at_call 273;refine (call hx _ (k.below s)).mono ?_)
 rintro v c ⟨rfl,F⟩;have A:c.cell? ⟨w.heap.size,1,none⟩=some (.int .i64 (1)):=by rw [qR F];rfl
 have m:=s.trans (F.mono s.size);obtain ⟨_,⟨S,W⟩,_⟩:=rd c m
 go_wp2_with fail
 rw [rounds_succ];have N:Below c.heap.size c (c.alloc (.cells #[.int .i64 (100),.int .i64 (-1)] 352)):=(Below.refl _ c).alloc (aW _) _;have p:Below w.heap.size w (c.alloc (.cells #[.int .i64 (100),.int .i64 (-1)] 352)):=m.trans (N.mono m.size)
 go_wp2_with (go_at_call 273;refine (call hy _ (k.below p)).mono ?_)
 rintro v f ⟨rfl,E⟩;have X:f.cell? ⟨c.heap.size,1,none⟩=some (.int .i64 (-1)):=by rw [qR E];rfl
 have t:=p.trans (E.mono p.size);obtain ⟨_,_,f4,Z⟩:=rd f t
 go_wp2_with fail
 rw [rounds_succ];have M:Below f.heap.size f (f.alloc (.cells #[.int .i64 (400),.int .i64 (1)] 352)):=(Below.refl _ f).alloc (aW _) _;have l:Below w.heap.size w (f.alloc (.cells #[.int .i64 (400),.int .i64 (1)] 352)):=t.trans (M.mono t.size)
 go_wp2_with (go_at_call 273;refine (call C _ (k.below l)).mono ?_)
 rintro v J ⟨rfl,G⟩;have V:J.cell? ⟨f.heap.size,1,none⟩=some (.int .i64 (1)):=by rw [qR G];rfl
 have L:=l.trans (G.mono l.size)
 go_wp2_with fail
 rw [rounds_succ]
 go_wp2
 go_ret
 simp only [Int.one_mul,Int.neg_mul] at h;refine ⟨.int .i64 r,?_,by simp only [VR],Below.fr L⟩;rw [<-h];rfl
end Go.Sh
