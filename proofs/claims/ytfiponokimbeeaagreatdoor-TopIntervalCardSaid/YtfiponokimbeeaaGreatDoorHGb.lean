
/- years.before looks into a package-level slice: its walk, by hand.
   (Numbers of functions and variables are filled in by hg.sh.)
   Conditions: none. -/
import Derived.Test.YtfiponokimbeeaaGreatDoorHGm
set_option linter.unusedVariables false
set_option linter.unusedSimpArgs false
set_option maxRecDepth 100000
namespace Go.Sh
open Go.Abs Go.Proofs Go.RowKit
theorem LV {w:World} (g:GL f7 w):∃b o,(∀w',Below w.heap.size w w'->w'.cell? ⟨5,0,none⟩=some (.slice (some ⟨b,o,none⟩) 3 3))/\
  ∀i z,Ew[i]?=some z->∀w',Below w.heap.size w w'->w'.cell? ⟨b,o+i,none⟩=some (.int .i64 z):=by
 obtain ⟨L,⟨v,A,n,m,s,y,k,l,b,o,⟨F,u,B,C,rfl,t⟩,D,E,q,j⟩,e,_⟩:=g;have k2:=e (5,.cells n k (0,0)) (by simp);have d:=e (b,.cells m l (0,0)) (by simp);have lt:∀{r:Nat} {x:Obj},w.heap[r]?=some x->r<w.heap.size:=by
  intro r x h;rcases aF r w.heap.size with a | a
  ·exact a
  ·rw [vZ a] at h;cases h
 refine ⟨b,o,λw' c=>?_,λi z f w' c=>?_⟩
 ·rw [c.cell (p:=⟨_,_,none⟩) (lt k2),be k2,q]
 ·rw [c.cell (p:=⟨_,_,none⟩) (lt d),be d,j i z f]
theorem qL {w w':World} {c:Array Value} {e:TypeId} (a:Below (w.alloc (.cells c e)).heap.size (w.alloc (.cells c e)) w') (j:Nat):w'.cell? ⟨w.heap.size,j,none⟩=c[j]?:=by
 have h:w'.heap[w.heap.size]?=some (.cells c e (0,0)):=by
  rw [a.block _ (by show w.heap.size<(w.heap.push _).size;simp)];exact iQ w _
 exact be h
set_option maxHeartbeats 8000000 in
theorem sL (n:Nat) (hc:∀(x y:Int) (r:Int×Int),kD n x y=some r->jD Tryz.prog 245 [.i .i64 x,.i .i64 y] (.tp [.i .i64 r.1,.i .i64 r.2])) (a:Int) (r:Int) (h:eJ n a=some r):
  jD Tryz.prog 247 [.i .i64 a] (.i .i64 r):=by
 intro w E k hx;simp only [VRs,VR] at hx;obtain ⟨_,_,s,rfl,rfl⟩:=hx;have:E=#[.int .i64 a]:=by apply jK;simpa using s
 subst this;clear s;simp only [eJ] at h;obtain ⟨⟨x,ex⟩,hx,h⟩:=au h;obtain ⟨⟨y,M⟩,hy,h⟩:=au h;obtain ⟨⟨z,U⟩,t,h⟩:=au h;simp only [ak] at h;have wr:∀v,IntKind.wrap .i64 v=wrap64 v:=λv=>by rw [FL];unfold wrap64;rfl
 simp only [wr] at hx hy t h;have call:∀{d q e:Int},kD n (wrap64 (a - 1)) d=some (q,e)->∀c:World,GL f7 c->Calls Tryz.prog 245 #[.int .i64 (wrap64 (a - 1)),.int .i64 d] c λx w'=>x=.returned (.tuple #[.int .i64 q,.int .i64 e])/\Below c.heap.size c w':=by
  intro d q e G c m;refine (hc _ _ (q,e) G c _ m (by simp [VRs,VR])).mono λx w' ⟨y,J,A,L⟩=>?_;simp only [VR,VRs] at A;obtain ⟨T,rfl,_,_,K,rfl,_,_,rfl,rfl,rfl⟩:=A;refine ⟨?_,L.below⟩;rw [J];congr 2;apply jK;simpa using K
 have mixed:Tryz.prog.follows .mixedOrders=true:=by kernel_rfl
 obtain ⟨b,o,k0,g⟩:=LV k;have s0:=k0 w (Below.refl _ _);have rd:∀w',Below w.heap.size w w'->(w'.cell? ⟨b,o,none⟩=some (.int .i64 4)/\w'.cell? ⟨b,o+1,none⟩=some (.int .i64 1))/\(w'.cell? ⟨b,o+2,none⟩=some (.int .i64 100)/\w'.cell? ⟨b,o+2+1,none⟩=some (.int .i64 (-1)))/\(w'.cell? ⟨b,o+4,none⟩=some (.int .i64 400)/\w'.cell? ⟨b,o+4+1,none⟩=some (.int .i64 1)):=λw' j=>
  ⟨⟨g 0 4 rfl w' j,g 1 1 rfl w' j⟩,⟨g 2 100 rfl w' j,g 3 (-1) rfl w' j⟩,⟨g 4 400 rfl w' j,g 5 1 rfl w' j⟩⟩
 obtain ⟨⟨X,S⟩,_⟩:=rd w (Below.refl _ _)
 go_enter Tryz.func247,Tryz.ntmps247
 go_wp2_with fail
 refine wp_loop_rounds 4 ?_;rw [rounds_succ];have O:wrap64 1=1:=by unfold wrap64;rfl
 have Q:wrap64 2=2:=by unfold wrap64;rfl
 have R:wrap64 3=3:=by unfold wrap64;rfl
 have B:Below w.heap.size w w:=Below.refl _ _;have F:Below w.heap.size w (w.alloc (.cells #[.int .i64 (4),.int .i64 (1)] 332)):=(Below.refl _ w).alloc (aQ _) _;have a1:Below w.heap.size w (w.alloc (.cells #[.int .i64 (4),.int .i64 (1)] 332)):=B.trans (F.mono B.size)
 go_wp2_with (go_at_call 245;refine (call hx _ (k.below a1)).mono ?_)
 rintro v c ⟨rfl,b1⟩;have s:c.cell? ⟨w.heap.size,1,none⟩=some (.int .i64 (1)):=by rw [qL b1];rfl
 have l:=a1.trans (b1.mono a1.size);obtain ⟨_,⟨W,Z⟩,_⟩:=rd c l
 go_wp2_with fail
 rw [rounds_succ];have I:Below c.heap.size c (c.alloc (.cells #[.int .i64 (100),.int .i64 (-1)] 332)):=(Below.refl _ c).alloc (aQ _) _;have a2:Below w.heap.size w (c.alloc (.cells #[.int .i64 (100),.int .i64 (-1)] 332)):=l.trans (I.mono l.size)
 go_wp2_with (go_at_call 245;refine (call hy _ (k.below a2)).mono ?_)
 rintro v f ⟨rfl,b2⟩;have V:f.cell? ⟨c.heap.size,1,none⟩=some (.int .i64 (-1)):=by rw [qL b2];rfl
 have d2:=a2.trans (b2.mono a2.size);obtain ⟨_,_,Y,P⟩:=rd f d2
 go_wp2_with fail
 rw [rounds_succ];have H:Below f.heap.size f (f.alloc (.cells #[.int .i64 (400),.int .i64 (1)] 332)):=(Below.refl _ f).alloc (aQ _) _;have p:Below w.heap.size w (f.alloc (.cells #[.int .i64 (400),.int .i64 (1)] 332)):=d2.trans (H.mono d2.size)
 go_wp2_with (go_at_call 245;refine (call t _ (k.below p)).mono ?_)
 rintro v D ⟨rfl,u⟩;have N:D.cell? ⟨f.heap.size,1,none⟩=some (.int .i64 (1)):=by rw [qL u];rfl
 have C:=p.trans (u.mono p.size)
 go_wp2_with fail
 rw [rounds_succ]
 go_wp2
 go_ret
 simp only [Int.one_mul,Int.neg_mul] at h;refine ⟨.int .i64 r,?_,by simp only [VR],Below.fr C⟩;rw [<-h];rfl
end Go.Sh
