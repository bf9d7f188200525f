
/- years.before looks into a package-level slice: its walk, by hand.
   (Numbers of functions and variables are filled in by hg.sh.)
   Conditions: none. -/
import Derived.Test.YthemneooekobkabGreatDoorHGm
set_option linter.unusedVariables false
set_option linter.unusedSimpArgs false
set_option maxRecDepth 100000
namespace Go.Sh
open Go.Abs Go.Proofs Go.RowKit
theorem Qb {w:World} (k:GL ip w):∃b o,(∀w',Below w.heap.size w w'->w'.cell? ⟨8,0,none⟩=some (.slice (some ⟨b,o,none⟩) 3 3))/\
  ∀i z,GI[i]?=some z->∀w',Below w.heap.size w w'->w'.cell? ⟨b,o+i,none⟩=some (.int .i64 z):=by
 obtain ⟨L,⟨A,C,f,c3,s,E,g,l,b,o,⟨q,v,B,t,rfl,D⟩,u,y,n,j⟩,d,_⟩:=k;have k2:=d (8,.cells f g (0,0)) (by simp);have e:=d (b,.cells c3 l (0,0)) (by simp);have lt:∀{r:Nat} {x:Obj},w.heap[r]?=some x->r<w.heap.size:=by
  intro r x h;rcases aG r w.heap.size with c | c
  ·exact c
  ·rw [yj c] at h;cases h
 refine ⟨b,o,λw' a=>?_,λi z m w' a=>?_⟩
 ·rw [a.cell (p:=⟨_,_,none⟩) (lt k2),bu k2,n]
 ·rw [a.cell (p:=⟨_,_,none⟩) (lt e),bu e,j i z m]
theorem tn {w w':World} {c:Array Value} {e:TypeId} (a:Below (w.alloc (.cells c e)).heap.size (w.alloc (.cells c e)) w') (j:Nat):w'.cell? ⟨w.heap.size,j,none⟩=c[j]?:=by
 have h:w'.heap[w.heap.size]?=some (.cells c e (0,0)):=by
  rw [a.block _ (by show w.heap.size<(w.heap.push _).size;simp)];exact ki w _
 exact bu h
set_option maxHeartbeats 8000000 in
theorem vj (n:Nat) (hc:∀(x y:Int) (r:Int×Int),mg n x y=some r->kY Tryz.prog 292 [.i .i64 x,.i .i64 y] (.tp [.i .i64 r.1,.i .i64 r.2])) (a:Int) (r:Int) (h:fD n a=some r):
  kY Tryz.prog 302 [.i .i64 a] (.i .i64 r):=by
 intro w K k hx;simp only [VRs,VR] at hx;obtain ⟨_,_,l,rfl,rfl⟩:=hx;have:K=#[.int .i64 a]:=by apply lG;simpa using l
 subst this;clear l;simp only [fD] at h;obtain ⟨⟨x,ex⟩,hx,h⟩:=av h;obtain ⟨⟨y,Y⟩,hy,h⟩:=av h;obtain ⟨⟨z,O⟩,A,h⟩:=av h;simp only [au] at h;have wr:∀v,IntKind.wrap .i64 v=wrap64 v:=λv=>by rw [GE];unfold wrap64;rfl
 simp only [wr] at hx hy A h;have call:∀{d q e:Int},mg n (wrap64 (a - 1)) d=some (q,e)->∀c:World,GL ip c->Calls Tryz.prog 292 #[.int .i64 (wrap64 (a - 1)),.int .i64 d] c λx w'=>x=.returned (.tuple #[.int .i64 q,.int .i64 e])/\Below c.heap.size c w':=by
  intro d q e H c m;refine (hc _ _ (q,e) H c _ m (by simp [VRs,VR])).mono λx w' ⟨y,D,B,G⟩=>?_;simp only [VR,VRs] at B;obtain ⟨U,rfl,_,_,I,rfl,_,_,rfl,rfl,rfl⟩:=B;refine ⟨?_,G.below⟩;rw [D];congr 2;apply lG;simpa using I
 have mixed:Tryz.prog.follows .mixedOrders=true:=by kernel_rfl
 obtain ⟨b,o,k0,g⟩:=Qb k;have s0:=k0 w (Below.refl _ _);have rd:∀w',Below w.heap.size w w'->(w'.cell? ⟨b,o,none⟩=some (.int .i64 4)/\w'.cell? ⟨b,o+1,none⟩=some (.int .i64 1))/\(w'.cell? ⟨b,o+2,none⟩=some (.int .i64 100)/\w'.cell? ⟨b,o+2+1,none⟩=some (.int .i64 (-1)))/\(w'.cell? ⟨b,o+4,none⟩=some (.int .i64 400)/\w'.cell? ⟨b,o+4+1,none⟩=some (.int .i64 1)):=λw' j=>
  ⟨⟨g 0 4 rfl w' j,g 1 1 rfl w' j⟩,⟨g 2 100 rfl w' j,g 3 (-1) rfl w' j⟩,⟨g 4 400 rfl w' j,g 5 1 rfl w' j⟩⟩
 obtain ⟨⟨R,V⟩,_⟩:=rd w (Below.refl _ _)
 go_enter Tryz.func302,Tryz.ntmps302
 go_wp2_with fail
 refine wp_loop_rounds 4 ?_;rw [rounds_succ];have W:wrap64 1=1:=by unfold wrap64;rfl
 have Q:wrap64 2=2:=by unfold wrap64;rfl
 have P:wrap64 3=3:=by unfold wrap64;rfl
 have t:Below w.heap.size w w:=Below.refl _ _;have J:Below w.heap.size w (w.alloc (.cells #[.int .i64 (4),.int .i64 (1)] 360)):=(Below.refl _ w).alloc (aW _) _;have a1:Below w.heap.size w (w.alloc (.cells #[.int .i64 (4),.int .i64 (1)] 360)):=t.trans (J.mono t.size)
 go_wp2_with (go_at_call 292;refine (call hx _ (k.below a1)).mono ?_)
 rintro v c ⟨rfl,b1⟩;have l:c.cell? ⟨w.heap.size,1,none⟩=some (.int .i64 (1)):=by rw [tn b1];rfl
 have p:=a1.trans (b1.mono a1.size);obtain ⟨_,⟨N,T⟩,_⟩:=rd c p
 go_wp2_with fail
 rw [rounds_succ];have C:Below c.heap.size c (c.alloc (.cells #[.int .i64 (100),.int .i64 (-1)] 360)):=(Below.refl _ c).alloc (aW _) _;have a2:Below w.heap.size w (c.alloc (.cells #[.int .i64 (100),.int .i64 (-1)] 360)):=p.trans (C.mono p.size)
 go_wp2_with (go_at_call 292;refine (call hy _ (k.below a2)).mono ?_)
 rintro v f ⟨rfl,b2⟩;have L:f.cell? ⟨c.heap.size,1,none⟩=some (.int .i64 (-1)):=by rw [tn b2];rfl
 have d2:=a2.trans (b2.mono a2.size);obtain ⟨_,_,X,S⟩:=rd f d2
 go_wp2_with fail
 rw [rounds_succ];have c3:Below f.heap.size f (f.alloc (.cells #[.int .i64 (400),.int .i64 (1)] 360)):=(Below.refl _ f).alloc (aW _) _;have s:Below w.heap.size w (f.alloc (.cells #[.int .i64 (400),.int .i64 (1)] 360)):=d2.trans (c3.mono d2.size)
 go_wp2_with (go_at_call 292;refine (call A _ (k.below s)).mono ?_)
 rintro v E ⟨rfl,u⟩;have M:E.cell? ⟨f.heap.size,1,none⟩=some (.int .i64 (1)):=by rw [tn u];rfl
 have F:=s.trans (u.mono s.size)
 go_wp2_with fail
 rw [rounds_succ]
 go_wp2
 go_ret
 simp only [Int.one_mul,Int.neg_mul] at h;refine ⟨.int .i64 r,?_,by simp only [VR],Below.fr F⟩;rw [<-h];rfl
end Go.Sh
