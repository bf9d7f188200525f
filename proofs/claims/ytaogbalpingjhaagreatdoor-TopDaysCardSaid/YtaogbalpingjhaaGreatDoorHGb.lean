
/- years.before looks into a package-level slice: its walk, by hand.
   (Numbers of functions and variables are filled in by hg.sh.)
   Conditions: none. -/
import Derived.Test.YtaogbalpingjhaaGreatDoorHGm
set_option linter.unusedVariables false
set_option linter.unusedSimpArgs false
set_option maxRecDepth 100000
namespace Go.Sh
open Go.Abs Go.Proofs Go.RowKit
theorem En {w:World} (g:GL dH w):∃b o,(∀w',Below w.heap.size w w'->w'.cell? ⟨1,0,none⟩=some (.slice (some ⟨b,o,none⟩) 3 3))/\
  ∀i z,yb[i]?=some z->∀w',Below w.heap.size w w'->w'.cell? ⟨b,o+i,none⟩=some (.int .i64 z):=by
 obtain ⟨L,⟨E,t,m,l,s,B,n,f,b,o,⟨c4,u,v,y,rfl,A⟩,D,C,q,k⟩,e,_⟩:=g;have k2:=e (1,.cells m n (0,0)) (by simp);have d:=e (b,.cells l f (0,0)) (by simp);have lt:∀{r:Nat} {x:Obj},w.heap[r]?=some x->r<w.heap.size:=by
  intro r x h;rcases aA r w.heap.size with a | a
  ·exact a
  ·rw [rH a] at h;cases h
 refine ⟨b,o,λw' c=>?_,λi z j w' c=>?_⟩
 ·rw [c.cell (p:=⟨_,_,none⟩) (lt k2),aO k2,q]
 ·rw [c.cell (p:=⟨_,_,none⟩) (lt d),aO d,k i z j]
theorem np {w w':World} {c:Array Value} {e:TypeId} (a:Below (w.alloc (.cells c e)).heap.size (w.alloc (.cells c e)) w') (j:Nat):w'.cell? ⟨w.heap.size,j,none⟩=c[j]?:=by
 have h:w'.heap[w.heap.size]?=some (.cells c e (0,0)):=by
  rw [a.block _ (by show w.heap.size<(w.heap.push _).size;simp)];exact fD w _
 exact aO h
set_option maxHeartbeats 8000000 in
theorem oS (n:Nat) (hc:∀(x y:Int) (r:Int×Int),g9 n x y=some r->f7 Tryz.prog 183 [.i .i64 x,.i .i64 y] (.tp [.i .i64 r.1,.i .i64 r.2])) (a:Int) (r:Int) (h:cN n a=some r):
  f7 Tryz.prog 120 [.i .i64 a] (.i .i64 r):=by
 intro w P l k;simp only [VRs,VR] at k;obtain ⟨_,_,u,rfl,rfl⟩:=k;have:P=#[.int .i64 a]:=by apply gz;simpa using u
 subst this;clear u;simp only [cN] at h;obtain ⟨⟨x,ex⟩,k,h⟩:=ah h;obtain ⟨⟨y,Y⟩,C,h⟩:=ah h;obtain ⟨⟨z,ez⟩,F,h⟩:=ah h;simp only [ae] at h;have wr:∀v,IntKind.wrap .i64 v=wrap64 v:=λv=>by rw [zk];unfold wrap64;rfl
 simp only [wr] at k C F h;have call:∀{d q e:Int},g9 n (wrap64 (a - 1)) d=some (q,e)->∀c:World,GL dH c->Calls Tryz.prog 183 #[.int .i64 (wrap64 (a - 1)),.int .i64 d] c λx w'=>x=.returned (.tuple #[.int .i64 q,.int .i64 e])/\Below c.heap.size c w':=by
  intro d q e L c p;refine (hc _ _ (q,e) L c _ p (by simp [VRs,VR])).mono λx w' ⟨y,S,H,J⟩=>?_;simp only [VR,VRs] at H;obtain ⟨U,rfl,_,_,M,rfl,_,_,rfl,rfl,rfl⟩:=H;refine ⟨?_,J.below⟩;rw [S];congr 2;apply gz;simpa using M
 have mixed:Tryz.prog.follows .mixedOrders=true:=by kernel_rfl
 obtain ⟨b,o,k0,j⟩:=En l;have s0:=k0 w (Below.refl _ _);have rd:∀w',Below w.heap.size w w'->(w'.cell? ⟨b,o,none⟩=some (.int .i64 4)/\w'.cell? ⟨b,o+1,none⟩=some (.int .i64 1))/\(w'.cell? ⟨b,o+2,none⟩=some (.int .i64 100)/\w'.cell? ⟨b,o+2+1,none⟩=some (.int .i64 (-1)))/\(w'.cell? ⟨b,o+4,none⟩=some (.int .i64 400)/\w'.cell? ⟨b,o+4+1,none⟩=some (.int .i64 1)):=λw' g=>
  ⟨⟨j 0 4 rfl w' g,j 1 1 rfl w' g⟩,⟨j 2 100 rfl w' g,j 3 (-1) rfl w' g⟩,⟨j 4 400 rfl w' g,j 5 1 rfl w' g⟩⟩
 obtain ⟨⟨X,W⟩,_⟩:=rd w (Below.refl _ _)
 go_enter Tryz.func120,Tryz.ntmps120
 go_wp2_with fail
 refine wp_loop_rounds 4 ?_;rw [rounds_succ];have v1:wrap64 1=1:=by unfold wrap64;rfl
 have v2:wrap64 2=2:=by unfold wrap64;rfl
 have v3:wrap64 3=3:=by unfold wrap64;rfl
 have E:Below w.heap.size w w:=Below.refl _ _;have K:Below w.heap.size w (w.alloc (.cells #[.int .i64 (4),.int .i64 (1)] 244)):=(Below.refl _ w).alloc (aL _) _;have t:Below w.heap.size w (w.alloc (.cells #[.int .i64 (4),.int .i64 (1)] 244)):=E.trans (K.mono E.size)
 go_wp2_with (go_at_call 183;refine (call k _ (l.below t)).mono ?_)
 rintro v c ⟨rfl,G⟩;have u:c.cell? ⟨w.heap.size,1,none⟩=some (.int .i64 (1)):=by rw [np G];rfl
 have s:=t.trans (G.mono t.size);obtain ⟨_,⟨f2,V⟩,_⟩:=rd c s
 go_wp2_with fail
 rw [rounds_succ];have R:Below c.heap.size c (c.alloc (.cells #[.int .i64 (100),.int .i64 (-1)] 244)):=(Below.refl _ c).alloc (aL _) _;have m:Below w.heap.size w (c.alloc (.cells #[.int .i64 (100),.int .i64 (-1)] 244)):=s.trans (R.mono s.size)
 go_wp2_with (go_at_call 183;refine (call C _ (l.below m)).mono ?_)
 rintro v f ⟨rfl,I⟩;have Z:f.cell? ⟨c.heap.size,1,none⟩=some (.int .i64 (-1)):=by rw [np I];rfl
 have B:=m.trans (I.mono m.size);obtain ⟨_,_,f4,T⟩:=rd f B
 go_wp2_with fail
 rw [rounds_succ];have Q:Below f.heap.size f (f.alloc (.cells #[.int .i64 (400),.int .i64 (1)] 244)):=(Below.refl _ f).alloc (aL _) _;have A:Below w.heap.size w (f.alloc (.cells #[.int .i64 (400),.int .i64 (1)] 244)):=B.trans (Q.mono B.size)
 go_wp2_with (go_at_call 183;refine (call F _ (l.below A)).mono ?_)
 rintro v O ⟨rfl,D⟩;have e3:O.cell? ⟨f.heap.size,1,none⟩=some (.int .i64 (1)):=by rw [np D];rfl
 have N:=A.trans (D.mono A.size)
 go_wp2_with fail
 rw [rounds_succ]
 go_wp2
 go_ret
 simp only [Int.one_mul,Int.neg_mul] at h;refine ⟨.int .i64 r,?_,by simp only [VR],Below.fr N⟩;rw [<-h];rfl
end Go.Sh
