
/- From the row's laid variables to what the seat's Glob says of the package-level variables.
   Conditions: none. -/
import Derived.Test.YtfiponokimbeeaaGreatDoorAbsX
import Derived.Test.YtfiponokimbeeaaGreatDoorProg
import Derived.Test.YtfiponokimbeeaaGreatDoorRows
import Derived.Lib.LaidU8
import Derived.Lay
import Derived.LaidMore
set_option linter.unusedVariables false
set_option linter.unusedSimpArgs false
set_option maxRecDepth 100000
namespace Go.Abs
open Go.Proofs Go.RowKit Go.Lib
theorem D1 {P:Program} {w:World}:∀{l:List (String×DataW Unit)} {c:List MemPlace},DataW.LaidVars P w l c->∀n d,(n,d)∈l->
  ∃g t b fuel p,P.globalNamed n=some g/\(P.globals[g]?).map (·.type)=some t/\w.var? P n=some b/\DataW.trod (λ_=>()) P w 0 (λ_=>true) false fuel t b.toList=some (d,p)/\
   (∀x∈MemPlace.row ⟨g,0,none⟩ b.size,x∈c)/\∀x∈p,x∈c
 | [],_,_,_,_,f=>by cases f
 | (C,d')::r,c,h,n,d,f=>by
  obtain ⟨g,t,b,fuel,p,q,y,z,s,k,m,rfl⟩:=h;rcases cf.1 f with e | e
  ·cases e;exact ⟨g,t,b,fuel,p,y,z,s,k,λx hx=>by simp [hx],λx hx=>by simp [hx]⟩
  ·obtain ⟨o,A,i,a,B,k1,k2,v,k4,u,j⟩:=D1 m n d e;exact ⟨o,A,i,a,B,k1,k2,v,k4,λx hx=>by simp [u x hx],λx hx=>by simp [j x hx]⟩
theorem pN {P:Program} {w:World} {l:List (String×DataW Unit)} (h:laidMet P l w) {n:String} {d:DataW Unit} (k:(n,d)∈l) {g:Nat} {t:TypeId} (o:P.globalNamed n=some g) (hy:(P.globals[g]?).map (·.type)=some t):
  ∃a fuel p e,DataW.trod (λ_=>()) P w 0 (λ_=>true) false fuel t a.toList=some (d,p)/\(0<a.size->w.heap[g]?=some (.cells a e (0,0)))/\
   ∀b off,MemPlace.cell b off∈p->∃c t,w.heap[b]?=some (.cells c t (0,0)):=by
 obtain ⟨v,s,_,hp⟩:=h;obtain ⟨u,x,a,fuel,p,k1,k2,i,k4,r,m⟩:=D1 s n d k;obtain rfl:=ba (o.symm.trans k1);obtain rfl:=ba (hy.symm.trans k2);obtain ⟨e,f⟩:∃e,0<a.size->w.heap[g]?=some (.cells a e (0,0)):=by
  by_cases hs:0<a.size
  ·obtain ⟨c,e,j⟩:=(hp g 0 (r _ (by simp only [MemPlace.row,ek,iH];exact ⟨0,hs,rfl⟩))).1;refine ⟨e,λ_=>?_⟩;simp only [World.var?,k1,Option.bind_some,j,ak] at i;rw [j,i]
  ·exact ⟨0,λh=>absurd h hs⟩
 exact ⟨a,fuel,p,e,k4,f,λb off q=>(hp b off (m _ q)).1⟩
theorem Bh {P:Program} {w:World} {fuel:Nat} {t e:TypeId} {n m:Nat} {c:Array Field} {k:IntKind} {u:List Value} {p:List MemPlace} (f:Nat->List Int) (b:∀i,i<n->(f i).length=m)
  (x:P.underlying t=some (.array n e)) (A:P.underlying e=some (.struct c)) (y:∀(i:Nat) (f:Field),c[i]?=some f->P.underlying f.type=some (.int k)/\f.offset=i/\P.cellsOf f.type=1) (a:P.cellsOf e=c.size) (v:c.size=m)
  (h:DataW.trod (λ_=>()) P w 0 (λ_=>true) false fuel t u=some (.agg ((List.range n).map λi=>.agg ((f i).map λz=>.lit (.int k z))),p)):
  ∀i j:Nat,i<n->j<m->u[i*m+j]?=some (Value.int k ((f i).getD j 0)):=by
 intro i j hi o;obtain ⟨g,d,q,r,l⟩:=array_elem x h i hi;rw [lX,List.getElem?_range hi] at r;simp only [dU,ak] at r;subst r;have:=ints_of_struct A y a l;have s:=bO (·[j]?) this;simp only [a,v,Hv,ll,o,aI,lX] at s;rw [s,bn (by rw [b i hi];exact o)];simp [List.getD,bn (show j<(f i).length by rw [b i hi];exact o)]
theorem xW {P:Program} {w:World} {fuel:Nat} {t e:TypeId} {n:Nat} {k:IntKind} {m:List Value} {p:List MemPlace} {l:List Int} (v:l.length=n)
  (o:P.underlying t=some (.array n e)) (s:P.underlying e=some (.int k)) (b:P.cellsOf e=1)
  (h:DataW.trod (λ_=>()) P w 0 (λ_=>true) false fuel t m=some (.agg (l.map λz=>.lit (.int k z)),p)):
  ∀(i:Nat) (z:Int),l[i]?=some z->m[i]?=some (Value.int k z):=by
 intro i z a;have hi:i<n:=by
  rcases aF i n with j | j
  ·exact j
  ·rw [fX (by omega)] at a;cases a
 obtain ⟨c,d,q,g,f⟩:=array_elem o h i hi;rw [lX,a] at g;simp only [dU,ak] at g;subst g;obtain ⟨r,hc,hx,_⟩:=DataW.trod_int s f;have:r=z:=by
  have:=bO Prod.fst hx;simpa using this.symm
 subst this;have u:=bO (·[0]?) hc;simpa [b,Hv,ll] using u
theorem C6 {P:Program} {w:World} {fuel:Nat} {t e:TypeId} {n m:Nat} {F:Array Field} {k:IntKind} {S:List Value} {p:List MemPlace} (f:Nat->List Int) (B:∀i,i<n->(f i).length=m) (hn:0<n) (v:0<m)
  (W:P.underlying t=some (.slice e)) (Z:P.underlying e=some (.struct F)) (X:∀(i:Nat) (f:Field),F[i]?=some f->P.underlying f.type=some (.int k)/\f.offset=i/\P.cellsOf f.type=1) (q:P.cellsOf e=F.size) (O:F.size=m)
  (hp:∀b off,MemPlace.cell b off∈p->∃c t,w.heap[b]?=some (.cells c t (0,0)))
  (h:DataW.trod (λ_=>()) P w 0 (λ_=>true) false fuel t S=some (.slice ((List.range n).map λi=>.agg ((f i).map λz=>.lit (.int k z))) [],p)):
  ∃b o c J,S=[.slice (some ⟨b,o,none⟩) n n]/\w.heap[b]?=some (.cells c J (0,0))/\∀i j,i<n->j<m->c[o+(i*m+j)]?=some (.int k ((f i).getD j 0)):=by
 rcases DataW.trod_slice W h with ⟨_,hx⟩ | ⟨a,len,cap,T,rs,fu,rfl,I,hx,_,hlc,_,L,l,K,_⟩
 ·cases hx
 have R:=bO Prod.fst hx;simp only [DataW.slice.injEq] at R;obtain ⟨Q,V⟩:=R;have g:len=n:=by
  have:=bO List.length Q;simp at this;omega
 have E:cap=n:=by
  have N:=(K rfl).1;have h2:=bO List.length V;simp at h2;omega
 have x:=bO Prod.snd hx;simp only at x;have d:∀i j,i<n->j<m->w.cell? ((a.add (i*m)).add j)=some (.int k ((f i).getD j 0)):=by
  intro i j hi C;have N:=l i (by omega);obtain ⟨y,hy⟩:∃y,T[i]?=some y:=⟨T[i]'(by omega),bn (by omega)⟩;rw [hy] at N;obtain ⟨ce,M,D⟩:=K5.1 N;have G:y.1=.agg ((f i).map λz=>.lit (.int k z)):=by
   have:=bO (·[i]?) Q;simp only [lX,hy,List.getElem?_range hi,dU,ak] at this;exact this.symm
  have H:y=(.agg ((f i).map λz=>.lit (.int k z)),y.2):=by rw [<-G]
  rw [H] at D;have u:=ints_of_struct Z X q D;obtain ⟨_,_,r⟩:=World.cells?_some M;rw [q,O] at r;rw [r j C,u,lX,bn (by rw [B i hi];exact C)];simp [List.getD,bn (show j<(f i).length by rw [B i hi];exact C)]
 obtain ⟨b,o,s⟩:=a;have Y:MemPlace.cell b o∈p:=by
  rw [x,q,O,L,g];refine kX.2 (.inl ?_);simp only [MemPlace.row,ek,iH];exact ⟨0,Nat.mul_pos (by omega) v,rfl⟩
 obtain rfl:s=none:=by
  have A:=d 0 0 hn v;have:((Addr.add ⟨b,o,s⟩ (0*m)).add 0)=⟨b,o,s⟩:=by simp [Addr.add]
  rw [this] at A;exact cell_spot A
 obtain ⟨c,J,U⟩:=hp b o Y;refine ⟨b,o,c,J,by rw [I,g,E],U,λi j hi C=>?_⟩;have:=d i j hi C;rw [Addr.add_lit,Addr.add_lit,be U] at this;rw [<-this,gj]
theorem Dx {P:Program} {w:World} {fuel:Nat} {t:TypeId} {u:Array (String×TypeId)} {a:List Value} {f:String} {d:DataW Unit} {p:List MemPlace} (b:P.underlying t=some (.interface u))
  (h:DataW.trod (λ_=>()) P w 0 (λ_=>true) false fuel t a=some (.iface f d,p)):∃c e,a=[.iface c e]:=by
 cases fuel with
 | zero=>simp [DataW.trod] at h
 | succ n=>
  unfold DataW.trod at h;rw [b] at h;split at h<;>simp_all
end Go.Abs
namespace Go.Abs
open Go.Proofs Go.RowKit Go.Lib Go.Proofs.YtfiponokimbeeaaGreatDoor
def N9 (i:Nat):List Int:=[qj.getD (i*2) 0,qj.getD (i*2+1) 0]
def Ot (i:Nat):List Int:=[Ew.getD (i*2) 0,Ew.getD (i*2+1) 0]
theorem qB {c:Array Value} {o n:Nat} {l:List Int} {f:Nat->List Int} (k:l.length=n*2) (g:((List.range (n*2)).all λi=>l[i]?==some ((f (i / 2)).getD (i%2) 0))=true)
  (h:∀i j,i<n->j<2->c[o+(i*2+j)]?=some (.int .i64 ((f i).getD j 0))):FW c o l:=by
 intro i z a;have hi:i<n*2:=by
  rcases aF i (n*2) with d | d
  ·exact d
  ·rw [fX (by omega)] at a;cases a
 have b:=bG.1 g i (by simpa using hi);simp only [bp] at b;rw [a,ak] at b;have e:=h (i / 2) (i%2) (by omega) (by omega);rw [show i / 2*2+i%2=i by omega] at e;rw [e,<-b]
def KH:List Int:=(List.range 256).map λc=>(Lib.firstT c:Int)
def Iw (i:Nat):List Int:=[(Lib.accLo i:Int),(Lib.accHi i:Int)]
theorem LX:Rows.laid_unicode_utf8_first=.agg (KH.map λz=>.lit (.int .u8 z)):=by kernel_rfl
theorem JY:(Rows.laid_unicode_utf8_acceptRanges:DataW Unit)=DataW.agg ((List.range 16).map λi=>DataW.agg ((Iw i).map λz=>DataW.lit (.int .u8 z))):=by kernel_rfl
theorem F4 {w:World} {l:List (String×DataW Unit)} (h:laidMet Tryz.prog l w)
  (m0:("circa/seasons.spans",Rows.laid_circa_seasons_spans)∈l) (m1:("circa/months.lengths",Rows.laid_circa_months_lengths)∈l)
  (m2:("circa/years.steps",Rows.laid_circa_years_steps)∈l) (m3:("strconv.ErrSyntax",Rows.laid_strconv_ErrSyntax)∈l)
  (m4:("unicode/utf8.first",Rows.laid_unicode_utf8_first)∈l) (m5:("unicode/utf8.acceptRanges",Rows.laid_unicode_utf8_acceptRanges)∈l):GL f7 w:=by
 obtain ⟨c0,f0,p0,t0,d0,h0,_⟩:=pN h m0 (g:=2) (t:=304) (by kernel_rfl) (by kernel_rfl);obtain ⟨c1,f1,p1,t1,d1,h1,_⟩:=pN h m1 (g:=3) (t:=307) (by kernel_rfl) (by kernel_rfl);obtain ⟨c2,f2,p2,t2,d2,h2,q2⟩:=pN h m2 (g:=5) (t:=331) (by kernel_rfl) (by kernel_rfl);obtain ⟨c4,f4,p4,t4,d4,h4,_⟩:=pN h m3 (g:=0) (t:=124) (by kernel_rfl) (by kernel_rfl);obtain ⟨c5,f5,p5,t5,d5,h5,_⟩:=pN h m4 (g:=7) (t:=361) (by kernel_rfl) (by kernel_rfl);obtain ⟨c6,f6,p6,t6,d6,h6,_⟩:=pN h m5 (g:=8) (t:=364) (by kernel_rfl) (by kernel_rfl);rw [LX] at d5;rw [JY] at d6;have a5:=xW (l:=KH) (n:=256) (by kernel_rfl) Tryz.underlying361 Tryz.underlying5 (by kernel_rfl) d5;have a6:=Bh (n:=16) (m:=2) Iw (λ_ _=>rfl) Tryz.underlying364 Tryz.underlying363 (λi f hf=>by
  rcases i with _ | _ | i
  ·cases hf;exact ⟨by kernel_rfl,by kernel_rfl,by kernel_rfl⟩
  ·cases hf;exact ⟨by kernel_rfl,by kernel_rfl,by kernel_rfl⟩
  ·cases hf) (by kernel_rfl) rfl d6
 have a0:=Bh (n:=21) (m:=2) N9 (λ_ _=>rfl) Tryz.underlying304 Tryz.underlying303 (λi f hf=>by
  rcases i with _ | _ | i
  ·cases hf;exact ⟨by kernel_rfl,by kernel_rfl,by kernel_rfl⟩
  ·cases hf;exact ⟨by kernel_rfl,by kernel_rfl,by kernel_rfl⟩
  ·cases hf) (by kernel_rfl) rfl d0
 have a1:=xW (l:=EZ) (n:=12) rfl Tryz.underlying307 Tryz.underlying3 (by kernel_rfl) d1
 obtain ⟨b,o,c,ty,e2,hb,a2⟩:=C6 (n:=3) (m:=2) Ot (λ_ _=>rfl) (by omega) (by omega) Tryz.underlying331 Tryz.underlying332 (λi f hf=>by
  rcases i with _ | _ | i
  ·cases hf;exact ⟨by kernel_rfl,by kernel_rfl,by kernel_rfl⟩
  ·cases hf;exact ⟨by kernel_rfl,by kernel_rfl,by kernel_rfl⟩
  ·cases hf) (by kernel_rfl) rfl q2 d2
 obtain ⟨te,pe,e4⟩:=Dx Tryz.underlying124 d4;have g0:c0[0]?=some (.int .i64 3):=by rw [<-oH];exact a0 0 0 (by omega) (by omega)
 have g1:c1[0]?=some (.int .i64 31):=by rw [<-oH];exact a1 0 31 rfl
 have pos:∀{c:Array Value} {x:Value},c[0]?=some x->0<c.size:=λ{c} {x} h=>by
  rcases yB c.size with h' | h'
  ·rw [vZ (by omega)] at h;cases h
  ·exact h'
 have g2:c2[0]?=some (.slice (some ⟨b,o,none⟩) 3 3):=by rw [<-oH,e2];rfl
 have g4:c4[0]?=some (.iface te pe):=by rw [<-oH,e4];rfl
 have g5:∀i:Nat,i<256->c5[i]?=some (.int .u8 (Lib.firstT i)):=λi hi=>by
  rw [<-oH];exact a5 i _ (by simp [KH,hi])
 have g6:∀i:Nat,i<16->c6[i*2]?=some (.int .u8 (Lib.accLo i))/\c6[i*2+1]?=some (.int .u8 (Lib.accHi i)):=λi hi=>
  ⟨by rw [<-oH];exact a6 i 0 hi (by omega),by rw [<-oH];exact a6 i 1 hi (by omega)⟩
 refine ⟨_,⟨c0,c1,c2,c,t0,t1,t2,ty,b,o,⟨c4,t4,(te,(c5,t5),(c6,t6)),pe,rfl,g4,g5,g6⟩,?_,?_,g2,?_⟩,?_,λx _ b q hb=>by cases hb⟩
 ·exact qB (n:=21) (f:=N9) rfl (by decide) λi j hi hj=>by
   rw [cj,<-oH];exact a0 i j hi hj
 ·intro i z hz;rw [cj,<-oH];exact a1 i z hz
 ·exact qB (n:=3) (f:=Ot) rfl (by decide) λi j hi hj=>a2 i j hi hj
 ·intro x hx;simp only [cf,n7,o7] at hx;rcases hx with rfl | rfl | rfl | rfl | rfl | rfl | rfl
  ·exact h0 (pos g0)
  ·exact h1 (pos g1)
  ·exact h2 (pos g2)
  ·exact hb
  ·exact h4 (pos g4)
  ·exact h5 (pos (g5 0 (by omega)))
  ·exact h6 (pos (g6 0 (by omega)).1)
end Go.Abs
