/- years.before looks into a package-level slice: its walk, by hand.
   (Numbers of functions and variables are filled in by hg.sh.)
   Conditions: none. -/
import Derived.Test.YtpkdacjndoiabaaGreatDoorHGm
set_option linter.unusedVariables false
set_option linter.unusedSimpArgs false
set_option maxRecDepth 100000
namespace Go.Sh
open Go.Abs Go.Proofs Go.RowKit
theorem LI {w:World} (hg:GL iH w):∃b o,(∀w',Below w.heap.size w w'->w'.cell? ⟨6,0,none⟩=some (.slice (some ⟨b,o,none⟩) 3 3))/\
  ∀i z,FI[i]?=some z->∀w',Below w.heap.size w w'->w'.cell? ⟨b,o+i,none⟩=some (.int .i64 z):=by
 obtain ⟨L,⟨c0,c1,c2,c3,t0,t1,t2,t3,b,o,⟨c4,t4,te,pe,rfl,h4⟩,h0,h1,h2,h3⟩,hL,_⟩:=hg
 have k2:=hL (6,.cells c2 t2 (0,0)) (by simp)
 have k3:=hL (b,.cells c3 t3 (0,0)) (by simp)
 have lt:∀{r:Nat} {x:Obj},w.heap[r]?=some x->r<w.heap.size:=by
  intro r x h
  rcases aG r w.heap.size with h' | h'
  ·exact h'
  ·rw [vU h'] at h;cases h
 refine ⟨b,o,λw' hb=>?_,λi z hz w' hb=>?_⟩
 ·rw [hb.cell (p:=⟨_,_,none⟩) (lt k2),bH k2,h2]
 ·rw [hb.cell (p:=⟨_,_,none⟩) (lt k3),bH k3,h3 i z hz]
theorem rR {w w':World} {c:Array Value} {e:TypeId} (hb:Below (w.alloc (.cells c e)).heap.size (w.alloc (.cells c e)) w') (j:Nat):w'.cell? ⟨w.heap.size,j,none⟩=c[j]?:=by
 have h:w'.heap[w.heap.size]?=some (.cells c e (0,0)):=by
  rw [hb.block _ (by show w.heap.size<(w.heap.push _).size;simp)]
  exact jw w _
 exact bH h
set_option maxHeartbeats 8000000 in
theorem uo (n:Nat) (hc:∀(x y:Int) (r:Int×Int),ln n x y=some r->ks Tryz.prog 229 [.i .i64 x,.i .i64 y] (.tp [.i .i64 r.1,.i .i64 r.2])) (a:Int) (r:Int) (h:fe n a=some r):
  ks Tryz.prog 252 [.i .i64 a] (.i .i64 r):=by
 intro w xs hg hx
 simp only [VRs,VR] at hx
 obtain ⟨_,_,e1,rfl,rfl⟩:=hx
 have:xs=#[.int .i64 a]:=by apply lP;simpa using e1
 subst this
 clear e1
 simp only [fe] at h
 obtain ⟨⟨x,ex⟩,hx,h⟩:=av h
 obtain ⟨⟨y,ey⟩,hy,h⟩:=av h
 obtain ⟨⟨z,ez⟩,hz,h⟩:=av h
 simp only [aq] at h
 have wr:∀v,IntKind.wrap .i64 v=wrap64 v:=λv=>by rw [GA];unfold wrap64;rfl
 simp only [wr] at hx hy hz h
 have call:∀{d q e:Int},ln n (wrap64 (a - 1)) d=some (q,e)->∀w1:World,GL iH w1->Calls Tryz.prog 229 #[.int .i64 (wrap64 (a - 1)),.int .i64 d] w1 λx w'=>x=.returned (.tuple #[.int .i64 q,.int .i64 e])/\Below w1.heap.size w1 w':=by
  intro d q e hd w1 hg1
  refine (hc _ _ (q,e) hd w1 _ hg1 (by simp [VRs,VR])).mono λx w' ⟨y,q1,q2,q3⟩=>?_
  simp only [VR,VRs] at q2
  obtain ⟨cs,rfl,_,_,q4,rfl,_,_,rfl,rfl,rfl⟩:=q2
  refine ⟨?_,q3.below⟩
  rw [q1]
  congr 2
  apply lP;simpa using q4
 have mixed:Tryz.prog.follows .mixedOrders=true:=by kernel_rfl
 obtain ⟨b,o,k0,kc⟩:=LI hg
 have s0:=k0 w (Below.refl _ _)
 have rd:∀w',Below w.heap.size w w'->(w'.cell? ⟨b,o,none⟩=some (.int .i64 4)/\w'.cell? ⟨b,o+1,none⟩=some (.int .i64 1))/\(w'.cell? ⟨b,o+2,none⟩=some (.int .i64 100)/\w'.cell? ⟨b,o+2+1,none⟩=some (.int .i64 (-1)))/\(w'.cell? ⟨b,o+4,none⟩=some (.int .i64 400)/\w'.cell? ⟨b,o+4+1,none⟩=some (.int .i64 1)):=λw' hb=>
  ⟨⟨kc 0 4 rfl w' hb,kc 1 1 rfl w' hb⟩,⟨kc 2 100 rfl w' hb,kc 3 (-1) rfl w' hb⟩,⟨kc 4 400 rfl w' hb,kc 5 1 rfl w' hb⟩⟩
 obtain ⟨⟨f0,f1⟩,_⟩:=rd w (Below.refl _ _)
 go_enter Tryz.func252,Tryz.ntmps252
 go_wp2_with fail
 refine wp_loop_rounds 4 ?_
 rw [rounds_succ]
 have v1:wrap64 1=1:=by unfold wrap64;rfl
 have v2:wrap64 2=2:=by unfold wrap64;rfl
 have v3:wrap64 3=3:=by unfold wrap64;rfl
 have z0:Below w.heap.size w w:=Below.refl _ _
 have c1:Below w.heap.size w (w.alloc (.cells #[.int .i64 (4),.int .i64 (1)] 326)):=(Below.refl _ w).alloc (aV _) _
 have a1:Below w.heap.size w (w.alloc (.cells #[.int .i64 (4),.int .i64 (1)] 326)):=z0.trans (c1.mono z0.size)
 go_wp2_with (go_at_call 229;refine (call hx _ (hg.below a1)).mono ?_)
 rintro v w1 ⟨rfl,b1⟩
 have e1:w1.cell? ⟨w.heap.size,1,none⟩=some (.int .i64 (1)):=by rw [rR b1];rfl
 have d1:=a1.trans (b1.mono a1.size)
 obtain ⟨_,⟨f2,f3⟩,_⟩:=rd w1 d1
 go_wp2_with fail
 rw [rounds_succ]
 have c2:Below w1.heap.size w1 (w1.alloc (.cells #[.int .i64 (100),.int .i64 (-1)] 326)):=(Below.refl _ w1).alloc (aV _) _
 have a2:Below w.heap.size w (w1.alloc (.cells #[.int .i64 (100),.int .i64 (-1)] 326)):=d1.trans (c2.mono d1.size)
 go_wp2_with (go_at_call 229;refine (call hy _ (hg.below a2)).mono ?_)
 rintro v w2 ⟨rfl,b2⟩
 have e2:w2.cell? ⟨w1.heap.size,1,none⟩=some (.int .i64 (-1)):=by rw [rR b2];rfl
 have d2:=a2.trans (b2.mono a2.size)
 obtain ⟨_,_,f4,f5⟩:=rd w2 d2
 go_wp2_with fail
 rw [rounds_succ]
 have c3:Below w2.heap.size w2 (w2.alloc (.cells #[.int .i64 (400),.int .i64 (1)] 326)):=(Below.refl _ w2).alloc (aV _) _
 have a3:Below w.heap.size w (w2.alloc (.cells #[.int .i64 (400),.int .i64 (1)] 326)):=d2.trans (c3.mono d2.size)
 go_wp2_with (go_at_call 229;refine (call hz _ (hg.below a3)).mono ?_)
 rintro v w3 ⟨rfl,b3⟩
 have e3:w3.cell? ⟨w2.heap.size,1,none⟩=some (.int .i64 (1)):=by rw [rR b3];rfl
 have d3:=a3.trans (b3.mono a3.size)
 go_wp2_with fail
 rw [rounds_succ]
 go_wp2
 go_ret
 simp only [Int.one_mul,Int.neg_mul] at h
 refine ⟨.int .i64 r,?_,by simp only [VR],Below.fr d3⟩
 rw [<-h]
 rfl
end Go.Sh
