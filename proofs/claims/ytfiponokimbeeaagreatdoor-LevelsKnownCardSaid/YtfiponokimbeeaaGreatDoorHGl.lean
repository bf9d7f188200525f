
/- From the row's laid variables to what the seat's Glob says of the package-level variables.
   Conditions: none. -/
import Derived.Test.YtfiponokimbeeaaGreatDoorAbsX
import Derived.Test.YtfiponokimbeeaaGreatDoorProg
import Derived.Test.YtfiponokimbeeaaGreatDoorRows
import Derived.Lib.LaidU8
import Derived.Lay
import Derived.LaidMore
set_option linter.unusedVariables false
set_option linter.unusedSimpArgs false
set_option maxRecDepth 100000
namespace Go.Abs
open Go.Proofs Go.RowKit Go.Lib
theorem F7 {P:Program} {w:World}:∀{l:List (String×DataW Unit)} {c:List MemPlace},DataW.LaidVars P w l c->∀n d,(n,d)∈l->
  ∃g t b fuel p,P.globalNamed n=some g/\(P.globals[g]?).map (·.type)=some t/\w.var? P n=some b/\DataW.trod (λ_=>()) P w 0 (λ_=>true) false fuel t b.toList=some (d,p)/\
   (∀x∈MemPlace.row ⟨g,0,none⟩ b.size,x∈c)/\∀x∈p,x∈c
 | [],_,_,_,_,f=>by cases f
 | (C,d')::r,c,h,n,d,f=>by
  obtain ⟨g,t,b,fuel,p,q,j,y,z,s,k,rfl⟩:=h;rcases cf.1 f with e | e
  ·cases e;exact ⟨g,t,b,fuel,p,j,y,z,s,λx hx=>by simp [hx],λx hx=>by simp [hx]⟩
  ·obtain ⟨v,u,i,a,m,k1,k2,o,k4,B,A⟩:=F7 k n d e;exact ⟨v,u,i,a,m,k1,k2,o,k4,λx hx=>by simp [B x hx],λx hx=>by simp [A x hx]⟩
theorem rc {P:Program} {w:World} {l:List (String×DataW Unit)} (h:laidMet P l w) {n:String} {d:DataW Unit} (k:(n,d)∈l) {g:Nat} {t:TypeId} (m:P.globalNamed n=some g) (hy:(P.globals[g]?).map (·.type)=some t):
  ∃a fuel p e,DataW.trod (λ_=>()) P w 0 (λ_=>true) false fuel t a.toList=some (d,p)/\(0<a.size->w.heap[g]?=some (.cells a e (0,0)))/\
   ∀b off,MemPlace.cell b off∈p->∃c t,w.heap[b]?=some (.cells c t (0,0)):=by
 obtain ⟨x,s,_,hp⟩:=h;obtain ⟨v,u,a,fuel,p,k1,k2,j,k4,q,o⟩:=F7 s n d k;obtain rfl:=ba (m.symm.trans k1);obtain rfl:=ba (hy.symm.trans k2);obtain ⟨e,f⟩:∃e,0<a.size->w.heap[g]?=some (.cells a e (0,0)):=by
  by_cases hs:0<a.size
  ·obtain ⟨c,e,i⟩:=(hp g 0 (q _ (by simp only [MemPlace.row,fq,kj];exact ⟨0,hs,rfl⟩))).1;refine ⟨e,λ_=>?_⟩;simp only [World.var?,k1,Option.bind_some,i,ak] at j;rw [i,j]
  ·exact ⟨0,λh=>absurd h hs⟩
 exact ⟨a,fuel,p,e,k4,f,λb off r=>(hp b off (o _ r)).1⟩
theorem Bj {P:Program} {w:World} {fuel:Nat} {t e:TypeId} {n m:Nat} {c:Array Field} {k:IntKind} {s:List Value} {p:List MemPlace} (f:Nat->List Int) (b:∀i,i<n->(f i).length=m)
  (A:P.underlying t=some (.array n e)) (v:P.underlying e=some (.struct c)) (y:∀(i:Nat) (f:Field),c[i]?=some f->P.underlying f.type=some (.int k)/\f.offset=i/\P.cellsOf f.type=1) (a:P.cellsOf e=c.size) (x:c.size=m)
  (h:DataW.trod (λ_=>()) P w 0 (λ_=>true) false fuel t s=some (.agg ((List.range n).map λi=>.agg ((f i).map λz=>.lit (.int k z))),p)):
  ∀i j:Nat,i<n->j<m->s[i*m+j]?=some (Value.int k ((f i).getD j 0)):=by
 intro i j hi g;obtain ⟨r,d,q,o,l⟩:=array_elem A h i hi;rw [lG,List.getElem?_range hi] at o;simp only [eo,ak] at o;subst o;have:=ints_of_struct v y a l;have u:=ci (·[j]?) this;simp only [a,x,Im,lO,g,aK,lG] at u;rw [u,bn (by rw [b i hi];exact g)];simp [List.getD,bn (show j<(f i).length by rw [b i hi];exact g)]
theorem yc {P:Program} {w:World} {fuel:Nat} {t e:TypeId} {n:Nat} {k:IntKind} {j:List Value} {p:List MemPlace} {l:List Int} (v:l.length=n)
  (s:P.underlying t=some (.array n e)) (o:P.underlying e=some (.int k)) (c:P.cellsOf e=1)
  (h:DataW.trod (λ_=>()) P w 0 (λ_=>true) false fuel t j=some (.agg (l.map λz=>.lit (.int k z)),p)):
  ∀(i:Nat) (z:Int),l[i]?=some z->j[i]?=some (Value.int k z):=by
 intro i z a;have hi:i<n:=by
  rcases aF i n with m | m
  ·exact m
  ·rw [fW (by omega)] at a;cases a
 obtain ⟨g,d,q,f,b⟩:=array_elem s h i hi;rw [lG,a] at f;simp only [eo,ak] at f;subst f;obtain ⟨r,hc,hx,_⟩:=DataW.trod_int o b;have:r=z:=by
  have:=ci Prod.fst hx;simpa using this.symm
 subst this;have u:=ci (·[0]?) hc;simpa [c,Im,lO] using u
theorem C3 {P:Program} {w:World} {fuel:Nat} {t e:TypeId} {n m:Nat} {F:Array Field} {k:IntKind} {Q:List Value} {p:List MemPlace} (f:Nat->List Int) (C:∀i,i<n->(f i).length=m) (Y:0<n) (D:0<m)
  (Z:P.underlying t=some (.slice e)) (he:P.underlying e=some (.struct F)) (W:∀(i:Nat) (f:Field),F[i]?=some f->P.underlying f.type=some (.int k)/\f.offset=i/\P.cellsOf f.type=1) (q:P.cellsOf e=F.size) (U:F.size=m)
  (hp:∀b off,MemPlace.cell b off∈p->∃c t,w.heap[b]?=some (.cells c t (0,0)))
  (h:DataW.trod (λ_=>()) P w 0 (λ_=>true) false fuel t Q=some (.slice ((List.range n).map λi=>.agg ((f i).map λz=>.lit (.int k z))) [],p)):
  ∃b o c L,Q=[.slice (some ⟨b,o,none⟩) n n]/\w.heap[b]?=some (.cells c L (0,0))/\∀i j,i<n->j<m->c[o+(i*m+j)]?=some (.int k ((f i).getD j 0)):=by
 rcases DataW.trod_slice Z h with ⟨_,hx⟩ | ⟨a,len,cap,O,rs,fu,rfl,K,hx,_,hlc,_,J,l,M,_⟩
 ·cases hx
 have T:=ci Prod.fst hx;simp only [DataW.slice.injEq] at T;obtain ⟨R,X⟩:=T;have g:len=n:=by
  have:=ci List.length R;simp at this;omega
 have x:cap=n:=by
  have I:=(M rfl).1;have V:=ci List.length X;simp at V;omega
 have B:=ci Prod.snd hx;simp only at B;have d:∀i j,i<n->j<m->w.cell? ((a.add (i*m)).add j)=some (.int k ((f i).getD j 0)):=by
  intro i j hi v;have I:=l i (by omega);obtain ⟨y,hy⟩:∃y,O[i]?=some y:=⟨O[i]'(by omega),bn (by omega)⟩;rw [hy] at I;obtain ⟨ce,G,A⟩:=Option.bind_eq_some_iff.1 I;have H:y.1=.agg ((f i).map λz=>.lit (.int k z)):=by
   have:=ci (·[i]?) R;simp only [lG,hy,List.getElem?_range hi,eo,ak] at this;exact this.symm
  have N:y=(.agg ((f i).map λz=>.lit (.int k z)),y.2):=by rw [<-H]
  rw [N] at A;have u:=ints_of_struct he W q A;obtain ⟨_,_,E⟩:=World.cells?_some G;rw [q,U] at E;rw [E j v,u,lG,bn (by rw [C i hi];exact v)];simp [List.getD,bn (show j<(f i).length by rw [C i hi];exact v)]
 obtain ⟨b,o,s⟩:=a;have hb:MemPlace.cell b o∈p:=by
  rw [B,q,U,J,g];refine mX.2 (.inl ?_);simp only [MemPlace.row,fq,kj];exact ⟨0,Nat.mul_pos (by omega) D,rfl⟩
 obtain rfl:s=none:=by
  have r:=d 0 0 Y D;have:((Addr.add ⟨b,o,s⟩ (0*m)).add 0)=⟨b,o,s⟩:=by simp [Addr.add]
  rw [this] at r;exact cell_spot r
 obtain ⟨c,L,S⟩:=hp b o hb;refine ⟨b,o,c,L,by rw [K,g,x],S,λi j hi v=>?_⟩;have:=d i j hi v;rw [Addr.add_lit,Addr.add_lit,bf S] at this;rw [<-this,fY]
theorem DC {P:Program} {w:World} {fuel:Nat} {t:TypeId} {u:Array (String×TypeId)} {a:List Value} {f:String} {d:DataW Unit} {p:List MemPlace} (b:P.underlying t=some (.interface u))
  (h:DataW.trod (λ_=>()) P w 0 (λ_=>true) false fuel t a=some (.iface f d,p)):∃e c,a=[.iface e c]:=by
 cases fuel with
 | zero=>simp [DataW.trod] at h
 | succ n=>
  unfold DataW.trod at h;rw [b] at h;split at h<;>simp_all
end Go.Abs
namespace Go.Abs
open Go.Proofs Go.RowKit Go.Lib Go.Proofs.YtfiponokimbeeaaGreatDoor
def OD (i:Nat):List Int:=[rL.getD (i*2) 0,rL.getD (i*2+1) 0]
def Oq (i:Nat):List Int:=[Gy.getD (i*2) 0,Gy.getD (i*2+1) 0]
theorem rK {c:Array Value} {o n:Nat} {l:List Int} {f:Nat->List Int} (k:l.length=n*2) (g:((List.range (n*2)).all λi=>l[i]?==some ((f (i / 2)).getD (i%2) 0))=true)
  (h:∀i j,i<n->j<2->c[o+(i*2+j)]?=some (.int .i64 ((f i).getD j 0))):EW c o l:=by
 intro i z b;have hi:i<n*2:=by
  rcases aF i (n*2) with d | d
  ·exact d
  ·rw [fW (by omega)] at b;cases b
 have a:=co.1 g i (by simpa using hi);simp only [bQ] at a;rw [b,ak] at a;have e:=h (i / 2) (i%2) (by omega) (by omega);rw [show i / 2*2+i%2=i by omega] at e;rw [e,<-a]
def JI:List Int:=(List.range 256).map λc=>(Lib.firstT c:Int)
def Ia (i:Nat):List Int:=[(Lib.accLo i:Int),(Lib.accHi i:Int)]
theorem LI:Rows.laid_unicode_utf8_first=.agg (JI.map λz=>.lit (.int .u8 z)):=by kernel_rfl
theorem Ln:(Rows.laid_unicode_utf8_acceptRanges:DataW Unit)=DataW.agg ((List.range 16).map λi=>DataW.agg ((Ia i).map λz=>DataW.lit (.int .u8 z))):=by kernel_rfl
theorem HC {w:World} {l:List (String×DataW Unit)} (h:laidMet Tryz.prog l w)
  (m0:("circa/seasons.spans",Rows.laid_circa_seasons_spans)∈l) (m1:("circa/months.lengths",Rows.laid_circa_months_lengths)∈l)
  (m2:("circa/years.steps",Rows.laid_circa_years_steps)∈l) (m3:("strconv.ErrSyntax",Rows.laid_strconv_ErrSyntax)∈l)
  (m4:("unicode/utf8.first",Rows.laid_unicode_utf8_first)∈l) (m5:("unicode/utf8.acceptRanges",Rows.laid_unicode_utf8_acceptRanges)∈l):GL gf w:=by
 obtain ⟨c0,f0,p0,t0,d0,h0,_⟩:=rc h m0 (g:=2) (t:=304) (by kernel_rfl) (by kernel_rfl);obtain ⟨c1,f1,p1,t1,d1,h1,_⟩:=rc h m1 (g:=3) (t:=307) (by kernel_rfl) (by kernel_rfl);obtain ⟨c2,f2,p2,t2,d2,h2,q2⟩:=rc h m2 (g:=5) (t:=331) (by kernel_rfl) (by kernel_rfl);obtain ⟨c4,f4,p4,t4,d4,h4,_⟩:=rc h m3 (g:=0) (t:=124) (by kernel_rfl) (by kernel_rfl);obtain ⟨c5,f5,p5,t5,d5,h5,_⟩:=rc h m4 (g:=7) (t:=361) (by kernel_rfl) (by kernel_rfl);obtain ⟨c6,f6,p6,t6,d6,h6,_⟩:=rc h m5 (g:=8) (t:=364) (by kernel_rfl) (by kernel_rfl);rw [LI] at d5;rw [Ln] at d6;have a5:=yc (l:=JI) (n:=256) (by kernel_rfl) Tryz.underlying361 Tryz.underlying5 (by kernel_rfl) d5;have a6:=Bj (n:=16) (m:=2) Ia (λ_ _=>rfl) Tryz.underlying364 Tryz.underlying363 (λi f hf=>by
  rcases i with _ | _ | i
  ·cases hf;exact ⟨by kernel_rfl,by kernel_rfl,by kernel_rfl⟩
  ·cases hf;exact ⟨by kernel_rfl,by kernel_rfl,by kernel_rfl⟩
  ·cases hf) (by kernel_rfl) rfl d6
 have a0:=Bj (n:=21) (m:=2) OD (λ_ _=>rfl) Tryz.underlying304 Tryz.underlying303 (λi f hf=>by
  rcases i with _ | _ | i
  ·cases hf;exact ⟨by kernel_rfl,by kernel_rfl,by kernel_rfl⟩
  ·cases hf;exact ⟨by kernel_rfl,by kernel_rfl,by kernel_rfl⟩
  ·cases hf) (by kernel_rfl) rfl d0
 have a1:=yc (l:=E0) (n:=12) rfl Tryz.underlying307 Tryz.underlying3 (by kernel_rfl) d1
 obtain ⟨b,o,c,ty,e2,hb,a2⟩:=C3 (n:=3) (m:=2) Oq (λ_ _=>rfl) (by omega) (by omega) Tryz.underlying331 Tryz.underlying332 (λi f hf=>by
  rcases i with _ | _ | i
  ·cases hf;exact ⟨by kernel_rfl,by kernel_rfl,by kernel_rfl⟩
  ·cases hf;exact ⟨by kernel_rfl,by kernel_rfl,by kernel_rfl⟩
  ·cases hf) (by kernel_rfl) rfl q2 d2
 obtain ⟨te,pe,e4⟩:=DC Tryz.underlying124 d4;have g0:c0[0]?=some (.int .i64 3):=by rw [<-pU];exact a0 0 0 (by omega) (by omega)
 have g1:c1[0]?=some (.int .i64 31):=by rw [<-pU];exact a1 0 31 rfl
 have pos:∀{c:Array Value} {x:Value},c[0]?=some x->0<c.size:=λ{c} {x} h=>by
  rcases Eh c.size with h' | h'
  ·rw [vN (by omega)] at h;cases h
  ·exact h'
 have g2:c2[0]?=some (.slice (some ⟨b,o,none⟩) 3 3):=by rw [<-pU,e2];rfl
 have g4:c4[0]?=some (.iface te pe):=by rw [<-pU,e4];rfl
 have g5:∀i:Nat,i<256->c5[i]?=some (.int .u8 (Lib.firstT i)):=λi hi=>by
  rw [<-pU];exact a5 i _ (by simp [JI,hi])
 have g6:∀i:Nat,i<16->c6[i*2]?=some (.int .u8 (Lib.accLo i))/\c6[i*2+1]?=some (.int .u8 (Lib.accHi i)):=λi hi=>
  ⟨by rw [<-pU];exact a6 i 0 hi (by omega),by rw [<-pU];exact a6 i 1 hi (by omega)⟩
 refine ⟨_,⟨c0,c1,c2,c,t0,t1,t2,ty,b,o,⟨c4,t4,(te,(c5,t5),(c6,t6)),pe,rfl,g4,g5,g6⟩,?_,?_,g2,?_⟩,?_,λx _ b q hb=>by cases hb⟩
 ·exact rK (n:=21) (f:=OD) rfl (by decide) λi j hi hj=>by
   rw [cP,<-pU];exact a0 i j hi hj
 ·intro i z hz;rw [cP,<-pU];exact a1 i z hz
 ·exact rK (n:=3) (f:=Oq) rfl (by decide) λi j hi hj=>a2 i j hi hj
 ·intro x hx;simp only [cf,nD,o7] at hx;rcases hx with rfl | rfl | rfl | rfl | rfl | rfl | rfl
  ·exact h0 (pos g0)
  ·exact h1 (pos g1)
  ·exact h2 (pos g2)
  ·exact hb
  ·exact h4 (pos g4)
  ·exact h5 (pos (g5 0 (by omega)))
  ·exact h6 (pos (g6 0 (by omega)).1)
end Go.Abs
