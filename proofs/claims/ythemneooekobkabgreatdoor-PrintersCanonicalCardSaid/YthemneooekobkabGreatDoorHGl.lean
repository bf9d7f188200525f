
/- From the row's laid variables to what the seat's Glob says of the package-level variables.
   Conditions: none. -/
import Derived.Test.YthemneooekobkabGreatDoorAbsX
import Derived.Test.YthemneooekobkabGreatDoorProg
import Derived.Test.YthemneooekobkabGreatDoorRows
import Derived.Lib.LaidU8
import Derived.Lay
import Derived.LaidMore
set_option linter.unusedVariables false
set_option linter.unusedSimpArgs false
set_option maxRecDepth 100000
namespace Go.Abs
open Go.Proofs Go.RowKit Go.Lib
theorem Ic {P:Program} {w:World}:∀{l:List (String×DataW Unit)} {c:List MemPlace},DataW.LaidVars P w l c->∀n d,(n,d)∈l->
  ∃g t b fuel p,P.globalNamed n=some g/\(P.globals[g]?).map (·.type)=some t/\w.var? P n=some b/\DataW.trod (λ_=>()) P w 0 (λ_=>true) false fuel t b.toList=some (d,p)/\
   (∀x∈MemPlace.row ⟨g,0,none⟩ b.size,x∈c)/\∀x∈p,x∈c
 | [],_,_,_,_,i=>by cases i
 | (C,d')::r,c,h,n,d,i=>by
  obtain ⟨g,t,b,fuel,p,q,A,y,z,B,o,rfl⟩:=h;rcases dr.1 i with e | e
  ·cases e;exact ⟨g,t,b,fuel,p,A,y,z,B,λx hx=>by simp [hx],λx hx=>by simp [hx]⟩
  ·obtain ⟨v,j,f,a,u,k1,k2,s,k4,m,k⟩:=Ic o n d e;exact ⟨v,j,f,a,u,k1,k2,s,k4,λx hx=>by simp [m x hx],λx hx=>by simp [k x hx]⟩
theorem rW {P:Program} {w:World} {l:List (String×DataW Unit)} (h:laidMet P l w) {n:String} {d:DataW Unit} (r:(n,d)∈l) {g:Nat} {t:TypeId} (s:P.globalNamed n=some g) (hy:(P.globals[g]?).map (·.type)=some t):
  ∃a fuel p e,DataW.trod (λ_=>()) P w 0 (λ_=>true) false fuel t a.toList=some (d,p)/\(0<a.size->w.heap[g]?=some (.cells a e (0,0)))/\
   ∀b off,MemPlace.cell b off∈p->∃c t,w.heap[b]?=some (.cells c t (0,0)):=by
 obtain ⟨v,q,_,hp⟩:=h;obtain ⟨x,u,a,fuel,p,k1,k2,j,k4,m,k⟩:=Ic q n d r;obtain rfl:=bm (s.symm.trans k1);obtain rfl:=bm (hy.symm.trans k2);obtain ⟨e,f⟩:∃e,0<a.size->w.heap[g]?=some (.cells a e (0,0)):=by
  by_cases hs:0<a.size
  ·obtain ⟨c,e,i⟩:=(hp g 0 (m _ (by simp only [MemPlace.row,fe,lp];exact ⟨0,hs,rfl⟩))).1;refine ⟨e,λ_=>?_⟩;simp only [World.var?,k1,Option.bind_some,i,au] at j;rw [i,j]
  ·exact ⟨0,λh=>absurd h hs⟩
 exact ⟨a,fuel,p,e,k4,f,λb off o=>(hp b off (k _ o)).1⟩
theorem D7 {P:Program} {w:World} {fuel:Nat} {t e:TypeId} {n m:Nat} {c:Array Field} {k:IntKind} {s:List Value} {p:List MemPlace} (f:Nat->List Int) (b:∀i,i<n->(f i).length=m)
  (v:P.underlying t=some (.array n e)) (x:P.underlying e=some (.struct c)) (y:∀(i:Nat) (f:Field),c[i]?=some f->P.underlying f.type=some (.int k)/\f.offset=i/\P.cellsOf f.type=1) (a:P.cellsOf e=c.size) (A:c.size=m)
  (h:DataW.trod (λ_=>()) P w 0 (λ_=>true) false fuel t s=some (.agg ((List.range n).map λi=>.agg ((f i).map λz=>.lit (.int k z))),p)):
  ∀i j:Nat,i<n->j<m->s[i*m+j]?=some (Value.int k ((f i).getD j 0)):=by
 intro i j hi g;obtain ⟨r,d,q,o,l⟩:=array_elem v h i hi;rw [m8,List.getElem?_range hi] at o;simp only [fc,au] at o;subst o;have:=ints_of_struct x y a l;have u:=bY (·[j]?) this;simp only [a,A,NL,mZ,g,aJ,m8] at u;rw [u,be (by rw [b i hi];exact g)];simp [List.getD,be (show j<(f i).length by rw [b i hi];exact g)]
theorem zF {P:Program} {w:World} {fuel:Nat} {t e:TypeId} {n:Nat} {k:IntKind} {j:List Value} {p:List MemPlace} {l:List Int} (v:l.length=n)
  (o:P.underlying t=some (.array n e)) (r:P.underlying e=some (.int k)) (c:P.cellsOf e=1)
  (h:DataW.trod (λ_=>()) P w 0 (λ_=>true) false fuel t j=some (.agg (l.map λz=>.lit (.int k z)),p)):
  ∀(i:Nat) (z:Int),l[i]?=some z->j[i]?=some (Value.int k z):=by
 intro i z b;have hi:i<n:=by
  rcases aG i n with m | m
  ·exact m
  ·rw [ii (by omega)] at b;cases b
 obtain ⟨g,d,q,f,a⟩:=array_elem o h i hi;rw [m8,b] at f;simp only [fc,au] at f;subst f;obtain ⟨s,hc,hx,_⟩:=DataW.trod_int r a;have:s=z:=by
  have:=bY Prod.fst hx;simpa using this.symm
 subst this;have u:=bY (·[0]?) hc;simpa [c,NL,mZ] using u
theorem F9 {P:Program} {w:World} {fuel:Nat} {t e:TypeId} {n m:Nat} {F:Array Field} {k:IntKind} {S:List Value} {p:List MemPlace} (f:Nat->List Int) (B:∀i,i<n->(f i).length=m) (hn:0<n) (r:0<m)
  (V:P.underlying t=some (.slice e)) (X:P.underlying e=some (.struct F)) (hf:∀(i:Nat) (f:Field),F[i]?=some f->P.underlying f.type=some (.int k)/\f.offset=i/\P.cellsOf f.type=1) (l:P.cellsOf e=F.size) (R:F.size=m)
  (hp:∀b off,MemPlace.cell b off∈p->∃c t,w.heap[b]?=some (.cells c t (0,0)))
  (h:DataW.trod (λ_=>()) P w 0 (λ_=>true) false fuel t S=some (.slice ((List.range n).map λi=>.agg ((f i).map λz=>.lit (.int k z))) [],p)):
  ∃b o c I,S=[.slice (some ⟨b,o,none⟩) n n]/\w.heap[b]?=some (.cells c I (0,0))/\∀i j,i<n->j<m->c[o+(i*m+j)]?=some (.int k ((f i).getD j 0)):=by
 rcases DataW.trod_slice V h with ⟨_,hx⟩ | ⟨a,len,cap,O,rs,fu,rfl,G,hx,_,W,_,J,q,M,_⟩
 ·cases hx
 have Q:=bY Prod.fst hx;simp only [DataW.slice.injEq] at Q;obtain ⟨T,Y⟩:=Q;have g:len=n:=by
  have:=bY List.length T;simp at this;omega
 have A:cap=n:=by
  have K:=(M rfl).1;have h2:=bY List.length Y;simp at h2;omega
 have x:=bY Prod.snd hx;simp only at x;have d:∀i j,i<n->j<m->w.cell? ((a.add (i*m)).add j)=some (.int k ((f i).getD j 0)):=by
  intro i j hi D;have K:=q i (by omega);obtain ⟨y,hy⟩:∃y,O[i]?=some y:=⟨O[i]'(by omega),be (by omega)⟩;rw [hy] at K;obtain ⟨ce,H,C⟩:=Option.bind_eq_some_iff.1 K;have L:y.1=.agg ((f i).map λz=>.lit (.int k z)):=by
   have:=bY (·[i]?) T;simp only [m8,hy,List.getElem?_range hi,fc,au] at this;exact this.symm
  have N:y=(.agg ((f i).map λz=>.lit (.int k z)),y.2):=by rw [<-L]
  rw [N] at C;have E:=ints_of_struct X hf l C;obtain ⟨_,_,u⟩:=World.cells?_some H;rw [l,R] at u;rw [u j D,E,m8,be (by rw [B i hi];exact D)];simp [List.getD,be (show j<(f i).length by rw [B i hi];exact D)]
 obtain ⟨b,o,s⟩:=a;have Z:MemPlace.cell b o∈p:=by
  rw [x,l,R,J,g];refine oq.2 (.inl ?_);simp only [MemPlace.row,fe,lp];exact ⟨0,Nat.mul_pos (by omega) r,rfl⟩
 obtain rfl:s=none:=by
  have v:=d 0 0 hn r;have:((Addr.add ⟨b,o,s⟩ (0*m)).add 0)=⟨b,o,s⟩:=by simp [Addr.add]
  rw [this] at v;exact cell_spot v
 obtain ⟨c,I,U⟩:=hp b o Z;refine ⟨b,o,c,I,by rw [G,g,A],U,λi j hi D=>?_⟩;have:=d i j hi D;rw [Addr.add_lit,Addr.add_lit,bu U] at this;rw [<-this,iO]
theorem EU {P:Program} {w:World} {fuel:Nat} {t:TypeId} {u:Array (String×TypeId)} {a:List Value} {e:String} {d:DataW Unit} {p:List MemPlace} (b:P.underlying t=some (.interface u))
  (h:DataW.trod (λ_=>()) P w 0 (λ_=>true) false fuel t a=some (.iface e d,p)):∃c f,a=[.iface c f]:=by
 cases fuel with
 | zero=>simp [DataW.trod] at h
 | succ n=>
  unfold DataW.trod at h;rw [b] at h;split at h<;>simp_all
end Go.Abs
namespace Go.Abs
open Go.Proofs Go.RowKit Go.Lib Go.Proofs.YthemneooekobkabGreatDoor
def QQ (i:Nat):List Int:=[sK.getD (i*2) 0,sK.getD (i*2+1) 0]
def Q1 (i:Nat):List Int:=[GI.getD (i*2) 0,GI.getD (i*2+1) 0]
theorem sM {c:Array Value} {o n:Nat} {l:List Int} {f:Nat->List Int} (k:l.length=n*2) (g:((List.range (n*2)).all λi=>l[i]?==some ((f (i / 2)).getD (i%2) 0))=true)
  (h:∀i j,i<n->j<2->c[o+(i*2+j)]?=some (.int .i64 ((f i).getD j 0))):HE c o l:=by
 intro i z a;have hi:i<n*2:=by
  rcases aG i (n*2) with e | e
  ·exact e
  ·rw [ii (by omega)] at a;cases a
 have b:=cN.1 g i (by simpa using hi);simp only [bG] at b;rw [a,au] at b;have d:=h (i / 2) (i%2) (by omega) (by omega);rw [show i / 2*2+i%2=i by omega] at d;rw [d,<-b]
def Nb:List Int:=(List.range 256).map λc=>(Lib.firstT c:Int)
def L8 (i:Nat):List Int:=[(Lib.accLo i:Int),(Lib.accHi i:Int)]
theorem PL:Rows.laid_unicode_utf8_first=.agg (Nb.map λz=>.lit (.int .u8 z)):=by kernel_rfl
theorem ML:(Rows.laid_unicode_utf8_acceptRanges:DataW Unit)=DataW.agg ((List.range 16).map λi=>DataW.agg ((L8 i).map λz=>DataW.lit (.int .u8 z))):=by kernel_rfl
theorem IF {w:World} {l:List (String×DataW Unit)} (h:laidMet Tryz.prog l w)
  (m0:("circa/seasons.spans",Rows.laid_circa_seasons_spans)∈l) (m1:("circa/months.lengths",Rows.laid_circa_months_lengths)∈l)
  (m2:("circa/years.steps",Rows.laid_circa_years_steps)∈l) (m3:("strconv.ErrSyntax",Rows.laid_strconv_ErrSyntax)∈l)
  (m4:("unicode/utf8.first",Rows.laid_unicode_utf8_first)∈l) (m5:("unicode/utf8.acceptRanges",Rows.laid_unicode_utf8_acceptRanges)∈l):GL ip w:=by
 obtain ⟨c0,f0,p0,t0,d0,h0,_⟩:=rW h m0 (g:=3) (t:=332) (by kernel_rfl) (by kernel_rfl);obtain ⟨c1,f1,p1,t1,d1,h1,_⟩:=rW h m1 (g:=4) (t:=346) (by kernel_rfl) (by kernel_rfl);obtain ⟨c2,f2,p2,t2,d2,h2,q2⟩:=rW h m2 (g:=8) (t:=359) (by kernel_rfl) (by kernel_rfl);obtain ⟨c4,f4,p4,t4,d4,h4,_⟩:=rW h m3 (g:=0) (t:=160) (by kernel_rfl) (by kernel_rfl);obtain ⟨c5,f5,p5,t5,d5,h5,_⟩:=rW h m4 (g:=5) (t:=347) (by kernel_rfl) (by kernel_rfl);obtain ⟨c6,f6,p6,t6,d6,h6,_⟩:=rW h m5 (g:=6) (t:=350) (by kernel_rfl) (by kernel_rfl);rw [PL] at d5;rw [ML] at d6;have a5:=zF (l:=Nb) (n:=256) (by kernel_rfl) Tryz.underlying347 Tryz.underlying5 (by kernel_rfl) d5;have a6:=D7 (n:=16) (m:=2) L8 (λ_ _=>rfl) Tryz.underlying350 Tryz.underlying349 (λi f hf=>by
  rcases i with _ | _ | i
  ·cases hf;exact ⟨by kernel_rfl,by kernel_rfl,by kernel_rfl⟩
  ·cases hf;exact ⟨by kernel_rfl,by kernel_rfl,by kernel_rfl⟩
  ·cases hf) (by kernel_rfl) rfl d6
 have a0:=D7 (n:=21) (m:=2) QQ (λ_ _=>rfl) Tryz.underlying332 Tryz.underlying331 (λi f hf=>by
  rcases i with _ | _ | i
  ·cases hf;exact ⟨by kernel_rfl,by kernel_rfl,by kernel_rfl⟩
  ·cases hf;exact ⟨by kernel_rfl,by kernel_rfl,by kernel_rfl⟩
  ·cases hf) (by kernel_rfl) rfl d0
 have a1:=zF (l:=GY) (n:=12) rfl Tryz.underlying346 Tryz.underlying3 (by kernel_rfl) d1
 obtain ⟨b,o,c,ty,e2,hb,a2⟩:=F9 (n:=3) (m:=2) Q1 (λ_ _=>rfl) (by omega) (by omega) Tryz.underlying359 Tryz.underlying360 (λi f hf=>by
  rcases i with _ | _ | i
  ·cases hf;exact ⟨by kernel_rfl,by kernel_rfl,by kernel_rfl⟩
  ·cases hf;exact ⟨by kernel_rfl,by kernel_rfl,by kernel_rfl⟩
  ·cases hf) (by kernel_rfl) rfl q2 d2
 obtain ⟨te,pe,e4⟩:=EU Tryz.underlying160 d4;have g0:c0[0]?=some (.int .i64 3):=by rw [<-qG];exact a0 0 0 (by omega) (by omega)
 have g1:c1[0]?=some (.int .i64 31):=by rw [<-qG];exact a1 0 31 rfl
 have pos:∀{c:Array Value} {x:Value},c[0]?=some x->0<c.size:=λ{c} {x} h=>by
  rcases BF c.size with h' | h'
  ·rw [yj (by omega)] at h;cases h
  ·exact h'
 have g2:c2[0]?=some (.slice (some ⟨b,o,none⟩) 3 3):=by rw [<-qG,e2];rfl
 have g4:c4[0]?=some (.iface te pe):=by rw [<-qG,e4];rfl
 have g5:∀i:Nat,i<256->c5[i]?=some (.int .u8 (Lib.firstT i)):=λi hi=>by
  rw [<-qG];exact a5 i _ (by simp [Nb,hi])
 have g6:∀i:Nat,i<16->c6[i*2]?=some (.int .u8 (Lib.accLo i))/\c6[i*2+1]?=some (.int .u8 (Lib.accHi i)):=λi hi=>
  ⟨by rw [<-qG];exact a6 i 0 hi (by omega),by rw [<-qG];exact a6 i 1 hi (by omega)⟩
 refine ⟨_,⟨c0,c1,c2,c,t0,t1,t2,ty,b,o,⟨c4,t4,(te,(c5,t5),(c6,t6)),pe,rfl,g4,g5,g6⟩,?_,?_,g2,?_⟩,?_,λx _ b q hb=>by cases hb⟩
 ·exact sM (n:=21) (f:=QQ) rfl (by decide) λi j hi hj=>by
   rw [de,<-qG];exact a0 i j hi hj
 ·intro i z hz;rw [de,<-qG];exact a1 i z hz
 ·exact sM (n:=3) (f:=Q1) rfl (by decide) λi j hi hj=>a2 i j hi hj
 ·intro x hx;simp only [dr,th,uI] at hx;rcases hx with rfl | rfl | rfl | rfl | rfl | rfl | rfl
  ·exact h0 (pos g0)
  ·exact h1 (pos g1)
  ·exact h2 (pos g2)
  ·exact hb
  ·exact h4 (pos g4)
  ·exact h5 (pos (g5 0 (by omega)))
  ·exact h6 (pos (g6 0 (by omega)).1)
end Go.Abs
