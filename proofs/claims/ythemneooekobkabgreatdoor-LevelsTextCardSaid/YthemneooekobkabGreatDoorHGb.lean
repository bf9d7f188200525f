
/- years.before looks into a package-level slice: its walk, by hand.
   (Numbers of functions and variables are filled in by hg.sh.)
   Conditions: none. -/
import Derived.Test.YthemneooekobkabGreatDoorHGm
set_option linter.unusedVariables false
set_option linter.unusedSimpArgs false
set_option maxRecDepth 100000
namespace Go.Sh
open Go.Abs Go.Proofs Go.RowKit
theorem Qs {w:World} (n:GL ie w):∃b o,(∀w',Below w.heap.size w w'->w'.cell? ⟨8,0,none⟩=some (.slice (some ⟨b,o,none⟩) 3 3))/\
  ∀i z,GW[i]?=some z->∀w',Below w.heap.size w w'->w'.cell? ⟨b,o+i,none⟩=some (.int .i64 z):=by
 obtain ⟨L,⟨y,D,m,l,v,C,k,g,b,o,⟨c4,E,t,A,rfl,u⟩,B,s,q,f⟩,e,_⟩:=n;have k2:=e (8,.cells m k (0,0)) (by simp);have d:=e (b,.cells l g (0,0)) (by simp);have lt:∀{r:Nat} {x:Obj},w.heap[r]?=some x->r<w.heap.size:=by
  intro r x h;rcases aH r w.heap.size with a | a
  ·exact a
  ·rw [xM a] at h;cases h
 refine ⟨b,o,λw' c=>?_,λi z j w' c=>?_⟩
 ·rw [c.cell (p:=⟨_,_,none⟩) (lt k2),bw k2,q]
 ·rw [c.cell (p:=⟨_,_,none⟩) (lt d),bw d,f i z j]
theorem tf {w w':World} {c:Array Value} {e:TypeId} (a:Below (w.alloc (.cells c e)).heap.size (w.alloc (.cells c e)) w') (j:Nat):w'.cell? ⟨w.heap.size,j,none⟩=c[j]?:=by
 have h:w'.heap[w.heap.size]?=some (.cells c e (0,0)):=by
  rw [a.block _ (by show w.heap.size<(w.heap.push _).size;simp)];exact jW w _
 exact bw h
set_option maxHeartbeats 8000000 in
theorem vd (n:Nat) (hc:∀(x y:Int) (r:Int×Int),mj n x y=some r->lq Tryz.prog 292 [.i .i64 x,.i .i64 y] (.tp [.i .i64 r.1,.i .i64 r.2])) (a:Int) (r:Int) (h:fJ n a=some r):
  lq Tryz.prog 302 [.i .i64 a] (.i .i64 r):=by
 intro w C k hx;simp only [VRs,VR] at hx;obtain ⟨_,_,p,rfl,rfl⟩:=hx;have:C=#[.int .i64 a]:=by apply lG;simpa using p
 subst this;clear p;simp only [fJ] at h;obtain ⟨⟨x,ex⟩,hx,h⟩:=av h;obtain ⟨⟨y,Z⟩,hy,h⟩:=av h;obtain ⟨⟨z,N⟩,t,h⟩:=av h;simp only [au] at h;have wr:∀v,IntKind.wrap .i64 v=wrap64 v:=λv=>by rw [HO];unfold wrap64;rfl
 simp only [wr] at hx hy t h;have call:∀{d q e:Int},mj n (wrap64 (a - 1)) d=some (q,e)->∀c:World,GL ie c->Calls Tryz.prog 292 #[.int .i64 (wrap64 (a - 1)),.int .i64 d] c λx w'=>x=.returned (.tuple #[.int .i64 q,.int .i64 e])/\Below c.heap.size c w':=by
  intro d q e G c s;refine (hc _ _ (q,e) G c _ s (by simp [VRs,VR])).mono λx w' ⟨y,D,u,H⟩=>?_;simp only [VR,VRs] at u;obtain ⟨X,rfl,_,_,L,rfl,_,_,rfl,rfl,rfl⟩:=u;refine ⟨?_,H.below⟩;rw [D];congr 2;apply lG;simpa using L
 have mixed:Tryz.prog.follows .mixedOrders=true:=by kernel_rfl
 obtain ⟨b,o,k0,j⟩:=Qs k;have s0:=k0 w (Below.refl _ _);have rd:∀w',Below w.heap.size w w'->(w'.cell? ⟨b,o,none⟩=some (.int .i64 4)/\w'.cell? ⟨b,o+1,none⟩=some (.int .i64 1))/\(w'.cell? ⟨b,o+2,none⟩=some (.int .i64 100)/\w'.cell? ⟨b,o+2+1,none⟩=some (.int .i64 (-1)))/\(w'.cell? ⟨b,o+4,none⟩=some (.int .i64 400)/\w'.cell? ⟨b,o+4+1,none⟩=some (.int .i64 1)):=λw' g=>
  ⟨⟨j 0 4 rfl w' g,j 1 1 rfl w' g⟩,⟨j 2 100 rfl w' g,j 3 (-1) rfl w' g⟩,⟨j 4 400 rfl w' g,j 5 1 rfl w' g⟩⟩
 obtain ⟨⟨T,V⟩,_⟩:=rd w (Below.refl _ _)
 go_enter Tryz.func302,Tryz.ntmps302
 go_wp2_with fail
 refine wp_loop_rounds 4 ?_;rw [rounds_succ];have Y:wrap64 1=1:=by unfold wrap64;rfl
 have Q:wrap64 2=2:=by unfold wrap64;rfl
 have W:wrap64 3=3:=by unfold wrap64;rfl
 have B:Below w.heap.size w w:=Below.refl _ _;have K:Below w.heap.size w (w.alloc (.cells #[.int .i64 (4),.int .i64 (1)] 360)):=(Below.refl _ w).alloc (aY _) _;have a1:Below w.heap.size w (w.alloc (.cells #[.int .i64 (4),.int .i64 (1)] 360)):=B.trans (K.mono B.size)
 go_wp2_with (go_at_call 292;refine (call hx _ (k.below a1)).mono ?_)
 rintro v c ⟨rfl,b1⟩;have p:c.cell? ⟨w.heap.size,1,none⟩=some (.int .i64 (1)):=by rw [tf b1];rfl
 have m:=a1.trans (b1.mono a1.size);obtain ⟨_,⟨O,M⟩,_⟩:=rd c m
 go_wp2_with fail
 rw [rounds_succ];have I:Below c.heap.size c (c.alloc (.cells #[.int .i64 (100),.int .i64 (-1)] 360)):=(Below.refl _ c).alloc (aY _) _;have a2:Below w.heap.size w (c.alloc (.cells #[.int .i64 (100),.int .i64 (-1)] 360)):=m.trans (I.mono m.size)
 go_wp2_with (go_at_call 292;refine (call hy _ (k.below a2)).mono ?_)
 rintro v f ⟨rfl,b2⟩;have S:f.cell? ⟨c.heap.size,1,none⟩=some (.int .i64 (-1)):=by rw [tf b2];rfl
 have d2:=a2.trans (b2.mono a2.size);obtain ⟨_,_,R,U⟩:=rd f d2
 go_wp2_with fail
 rw [rounds_succ];have F:Below f.heap.size f (f.alloc (.cells #[.int .i64 (400),.int .i64 (1)] 360)):=(Below.refl _ f).alloc (aY _) _;have l:Below w.heap.size w (f.alloc (.cells #[.int .i64 (400),.int .i64 (1)] 360)):=d2.trans (F.mono d2.size)
 go_wp2_with (go_at_call 292;refine (call t _ (k.below l)).mono ?_)
 rintro v J ⟨rfl,A⟩;have P:J.cell? ⟨f.heap.size,1,none⟩=some (.int .i64 (1)):=by rw [tf A];rfl
 have E:=l.trans (A.mono l.size)
 go_wp2_with fail
 rw [rounds_succ]
 go_wp2
 go_ret
 simp only [Int.one_mul,Int.neg_mul] at h;refine ⟨.int .i64 r,?_,by simp only [VR],Below.fr E⟩;rw [<-h];rfl
end Go.Sh
