
/- years.before looks into a package-level slice: its walk, by hand.
   (Numbers of functions and variables are filled in by hg.sh.)
   Conditions: none. -/
import Derived.Test.YthemneooekobkabGreatDoorHGm
set_option linter.unusedVariables false
set_option linter.unusedSimpArgs false
set_option maxRecDepth 100000
namespace Go.Sh
open Go.Abs Go.Proofs Go.RowKit
theorem QT {w:World} (g:GL gY w):∃b o,(∀w',Below w.heap.size w w'->w'.cell? ⟨8,0,none⟩=some (.slice (some ⟨b,o,none⟩) 3 3))/\
  ∀i z,Iq[i]?=some z->∀w',Below w.heap.size w w'->w'.cell? ⟨b,o+i,none⟩=some (.int .i64 z):=by
 obtain ⟨L,⟨u,D,j,k,t,y,f,l,b,o,⟨C,v,s,A,rfl,B⟩,E,F,q,n⟩,e,_⟩:=g;have k2:=e (8,.cells j f (0,0)) (by simp);have d:=e (b,.cells k l (0,0)) (by simp);have lt:∀{r:Nat} {x:Obj},w.heap[r]?=some x->r<w.heap.size:=by
  intro r x h;rcases aH r w.heap.size with c | c
  ·exact c
  ·rw [yd c] at h;cases h
 refine ⟨b,o,λw' a=>?_,λi z m w' a=>?_⟩
 ·rw [a.cell (p:=⟨_,_,none⟩) (lt k2),bv k2,q]
 ·rw [a.cell (p:=⟨_,_,none⟩) (lt d),bv d,n i z m]
theorem tw {w w':World} {c:Array Value} {e:TypeId} (a:Below (w.alloc (.cells c e)).heap.size (w.alloc (.cells c e)) w') (j:Nat):w'.cell? ⟨w.heap.size,j,none⟩=c[j]?:=by
 have h:w'.heap[w.heap.size]?=some (.cells c e (0,0)):=by
  rw [a.block _ (by show w.heap.size<(w.heap.push _).size;simp)];exact jK w _
 exact bv h
set_option maxHeartbeats 8000000 in
theorem uO (n:Nat) (hc:∀(x y:Int) (r:Int×Int),lU n x y=some r->k7 Tryz.prog 292 [.i .i64 x,.i .i64 y] (.tp [.i .i64 r.1,.i .i64 r.2])) (a:Int) (r:Int) (h:fF n a=some r):
  k7 Tryz.prog 302 [.i .i64 a] (.i .i64 r):=by
 intro w E k hx;simp only [VRs,VR] at hx;obtain ⟨_,_,p,rfl,rfl⟩:=hx;have:E=#[.int .i64 a]:=by apply lh;simpa using p
 subst this;clear p;simp only [fF] at h;obtain ⟨⟨x,ex⟩,hx,h⟩:=aw h;obtain ⟨⟨y,R⟩,hy,h⟩:=aw h;obtain ⟨⟨z,W⟩,A,h⟩:=aw h;simp only [av] at h;have wr:∀v,IntKind.wrap .i64 v=wrap64 v:=λv=>by rw [Ii];unfold wrap64;rfl
 simp only [wr] at hx hy A h;have call:∀{d q e:Int},lU n (wrap64 (a - 1)) d=some (q,e)->∀c:World,GL gY c->Calls Tryz.prog 292 #[.int .i64 (wrap64 (a - 1)),.int .i64 d] c λx w'=>x=.returned (.tuple #[.int .i64 q,.int .i64 e])/\Below c.heap.size c w':=by
  intro d q e D c s;refine (hc _ _ (q,e) D c _ s (by simp [VRs,VR])).mono λx w' ⟨y,J,t,C⟩=>?_;simp only [VR,VRs] at t;obtain ⟨Z,rfl,_,_,I,rfl,_,_,rfl,rfl,rfl⟩:=t;refine ⟨?_,C.below⟩;rw [J];congr 2;apply lh;simpa using I
 have mixed:Tryz.prog.follows .mixedOrders=true:=by kernel_rfl
 obtain ⟨b,o,k0,g⟩:=QT k;have s0:=k0 w (Below.refl _ _);have rd:∀w',Below w.heap.size w w'->(w'.cell? ⟨b,o,none⟩=some (.int .i64 4)/\w'.cell? ⟨b,o+1,none⟩=some (.int .i64 1))/\(w'.cell? ⟨b,o+2,none⟩=some (.int .i64 100)/\w'.cell? ⟨b,o+2+1,none⟩=some (.int .i64 (-1)))/\(w'.cell? ⟨b,o+4,none⟩=some (.int .i64 400)/\w'.cell? ⟨b,o+4+1,none⟩=some (.int .i64 1)):=λw' j=>
  ⟨⟨g 0 4 rfl w' j,g 1 1 rfl w' j⟩,⟨g 2 100 rfl w' j,g 3 (-1) rfl w' j⟩,⟨g 4 400 rfl w' j,g 5 1 rfl w' j⟩⟩
 obtain ⟨⟨V,Y⟩,_⟩:=rd w (Below.refl _ _)
 go_enter Tryz.func302,Tryz.ntmps302
 go_wp2_with fail
 refine wp_loop_rounds 4 ?_;rw [rounds_succ];have S:wrap64 1=1:=by unfold wrap64;rfl
 have T:wrap64 2=2:=by unfold wrap64;rfl
 have U:wrap64 3=3:=by unfold wrap64;rfl
 have B:Below w.heap.size w w:=Below.refl _ _;have L:Below w.heap.size w (w.alloc (.cells #[.int .i64 (4),.int .i64 (1)] 360)):=(Below.refl _ w).alloc (aV _) _;have a1:Below w.heap.size w (w.alloc (.cells #[.int .i64 (4),.int .i64 (1)] 360)):=B.trans (L.mono B.size)
 go_wp2_with (go_at_call 292;refine (call hx _ (k.below a1)).mono ?_)
 rintro v c ⟨rfl,b1⟩;have p:c.cell? ⟨w.heap.size,1,none⟩=some (.int .i64 (1)):=by rw [tw b1];rfl
 have l:=a1.trans (b1.mono a1.size);obtain ⟨_,⟨Q,M⟩,_⟩:=rd c l
 go_wp2_with fail
 rw [rounds_succ];have G:Below c.heap.size c (c.alloc (.cells #[.int .i64 (100),.int .i64 (-1)] 360)):=(Below.refl _ c).alloc (aV _) _;have a2:Below w.heap.size w (c.alloc (.cells #[.int .i64 (100),.int .i64 (-1)] 360)):=l.trans (G.mono l.size)
 go_wp2_with (go_at_call 292;refine (call hy _ (k.below a2)).mono ?_)
 rintro v f ⟨rfl,b2⟩;have P:f.cell? ⟨c.heap.size,1,none⟩=some (.int .i64 (-1)):=by rw [tw b2];rfl
 have d2:=a2.trans (b2.mono a2.size);obtain ⟨_,_,O,N⟩:=rd f d2
 go_wp2_with fail
 rw [rounds_succ];have H:Below f.heap.size f (f.alloc (.cells #[.int .i64 (400),.int .i64 (1)] 360)):=(Below.refl _ f).alloc (aV _) _;have m:Below w.heap.size w (f.alloc (.cells #[.int .i64 (400),.int .i64 (1)] 360)):=d2.trans (H.mono d2.size)
 go_wp2_with (go_at_call 292;refine (call A _ (k.below m)).mono ?_)
 rintro v K ⟨rfl,u⟩;have X:K.cell? ⟨f.heap.size,1,none⟩=some (.int .i64 (1)):=by rw [tw u];rfl
 have F:=m.trans (u.mono m.size)
 go_wp2_with fail
 rw [rounds_succ]
 go_wp2
 go_ret
 simp only [Int.one_mul,Int.neg_mul] at h;refine ⟨.int .i64 r,?_,by simp only [VR],Below.fr F⟩;rw [<-h];rfl
end Go.Sh
