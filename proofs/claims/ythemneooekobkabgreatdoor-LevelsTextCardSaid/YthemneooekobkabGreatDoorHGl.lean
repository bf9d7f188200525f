
/- From the row's laid variables to what the seat's Glob says of the package-level variables.
   Conditions: none. -/
import Derived.Test.YthemneooekobkabGreatDoorAbsX
import Derived.Test.YthemneooekobkabGreatDoorProg
import Derived.Test.YthemneooekobkabGreatDoorRows
import Derived.Lib.LaidU8
import Derived.Lay
import Derived.LaidMore
set_option linter.unusedVariables false
set_option linter.unusedSimpArgs false
set_option maxRecDepth 100000
namespace Go.Abs
open Go.Proofs Go.RowKit Go.Lib
theorem Hv {P:Program} {w:World}:∀{l:List (String×DataW Unit)} {c:List MemPlace},DataW.LaidVars P w l c->∀n d,(n,d)∈l->
  ∃g t b fuel p,P.globalNamed n=some g/\(P.globals[g]?).map (·.type)=some t/\w.var? P n=some b/\DataW.trod (λ_=>()) P w 0 (λ_=>true) false fuel t b.toList=some (d,p)/\
   (∀x∈MemPlace.row ⟨g,0,none⟩ b.size,x∈c)/\∀x∈p,x∈c
 | [],_,_,_,_,f=>by cases f
 | (C,d')::r,c,h,n,d,f=>by
  obtain ⟨g,t,b,fuel,p,q,s,y,m,v,A,rfl⟩:=h;rcases cL.1 f with e | e
  ·cases e;exact ⟨g,t,b,fuel,p,s,y,m,v,λx hx=>by simp [hx],λx hx=>by simp [hx]⟩
  ·obtain ⟨o,k,i,a,j,k1,k2,B,k4,z,u⟩:=Hv A n d e;exact ⟨o,k,i,a,j,k1,k2,B,k4,λx hx=>by simp [z x hx],λx hx=>by simp [u x hx]⟩
theorem rX {P:Program} {w:World} {l:List (String×DataW Unit)} (h:laidMet P l w) {n:String} {d:DataW Unit} (o:(n,d)∈l) {g:Nat} {t:TypeId} (s:P.globalNamed n=some g) (hy:(P.globals[g]?).map (·.type)=some t):
  ∃a fuel p e,DataW.trod (λ_=>()) P w 0 (λ_=>true) false fuel t a.toList=some (d,p)/\(0<a.size->w.heap[g]?=some (.cells a e (0,0)))/\
   ∀b off,MemPlace.cell b off∈p->∃c t,w.heap[b]?=some (.cells c t (0,0)):=by
 obtain ⟨x,k,_,hp⟩:=h;obtain ⟨v,u,a,fuel,p,k1,k2,j,k4,q,m⟩:=Hv k n d o;obtain rfl:=bm (s.symm.trans k1);obtain rfl:=bm (hy.symm.trans k2);obtain ⟨e,f⟩:∃e,0<a.size->w.heap[g]?=some (.cells a e (0,0)):=by
  by_cases hs:0<a.size
  ·obtain ⟨c,e,i⟩:=(hp g 0 (q _ (by simp only [MemPlace.row,eY,kX];exact ⟨0,hs,rfl⟩))).1;refine ⟨e,λ_=>?_⟩;simp only [World.var?,k1,Option.bind_some,i,au] at j;rw [i,j]
  ·exact ⟨0,λh=>absurd h hs⟩
 exact ⟨a,fuel,p,e,k4,f,λb off r=>(hp b off (m _ r)).1⟩
theorem Ds {P:Program} {w:World} {fuel:Nat} {t e:TypeId} {n m:Nat} {c:Array Field} {k:IntKind} {s:List Value} {p:List MemPlace} (f:Nat->List Int) (b:∀i,i<n->(f i).length=m)
  (A:P.underlying t=some (.array n e)) (y:P.underlying e=some (.struct c)) (x:∀(i:Nat) (f:Field),c[i]?=some f->P.underlying f.type=some (.int k)/\f.offset=i/\P.cellsOf f.type=1) (a:P.cellsOf e=c.size) (v:c.size=m)
  (h:DataW.trod (λ_=>()) P w 0 (λ_=>true) false fuel t s=some (.agg ((List.range n).map λi=>.agg ((f i).map λz=>.lit (.int k z))),p)):
  ∀i j:Nat,i<n->j<m->s[i*m+j]?=some (Value.int k ((f i).getD j 0)):=by
 intro i j hi g;obtain ⟨l,d,q,o,r⟩:=array_elem A h i hi;rw [m6,List.getElem?_range hi] at o;simp only [fb,au] at o;subst o;have:=ints_of_struct y x a r;have u:=cj (·[j]?) this;simp only [a,v,Kw,na,g,aL,m6] at u;rw [u,bf (by rw [b i hi];exact g)];simp [List.getD,bf (show j<(f i).length by rw [b i hi];exact g)]
theorem zi {P:Program} {w:World} {fuel:Nat} {t e:TypeId} {n:Nat} {k:IntKind} {m:List Value} {p:List MemPlace} {l:List Int} (v:l.length=n)
  (u:P.underlying t=some (.array n e)) (s:P.underlying e=some (.int k)) (b:P.cellsOf e=1)
  (h:DataW.trod (λ_=>()) P w 0 (λ_=>true) false fuel t m=some (.agg (l.map λz=>.lit (.int k z)),p)):
  ∀(i:Nat) (z:Int),l[i]?=some z->m[i]?=some (Value.int k z):=by
 intro i z g;have hi:i<n:=by
  rcases aH i n with j | j
  ·exact j
  ·rw [g9 (by omega)] at g;cases g
 obtain ⟨a,d,q,c,f⟩:=array_elem u h i hi;rw [m6,g] at c;simp only [fb,au] at c;subst c;obtain ⟨r,hc,hx,_⟩:=DataW.trod_int s f;have:r=z:=by
  have:=cj Prod.fst hx;simpa using this.symm
 subst this;have o:=cj (·[0]?) hc;simpa [b,Kw,na] using o
theorem Fq {P:Program} {w:World} {fuel:Nat} {t e:TypeId} {n m:Nat} {F:Array Field} {k:IntKind} {U:List Value} {p:List MemPlace} (f:Nat->List Int) (u:∀i,i<n->(f i).length=m) (hn:0<n) (D:0<m)
  (Y:P.underlying t=some (.slice e)) (V:P.underlying e=some (.struct F)) (hf:∀(i:Nat) (f:Field),F[i]?=some f->P.underlying f.type=some (.int k)/\f.offset=i/\P.cellsOf f.type=1) (l:P.cellsOf e=F.size) (S:F.size=m)
  (hp:∀b off,MemPlace.cell b off∈p->∃c t,w.heap[b]?=some (.cells c t (0,0)))
  (h:DataW.trod (λ_=>()) P w 0 (λ_=>true) false fuel t U=some (.slice ((List.range n).map λi=>.agg ((f i).map λz=>.lit (.int k z))) [],p)):
  ∃b o c N,U=[.slice (some ⟨b,o,none⟩) n n]/\w.heap[b]?=some (.cells c N (0,0))/\∀i j,i<n->j<m->c[o+(i*m+j)]?=some (.int k ((f i).getD j 0)):=by
 rcases DataW.trod_slice Y h with ⟨_,hx⟩ | ⟨a,len,cap,R,rs,fu,rfl,G,hx,_,W,_,I,q,L,_⟩
 ·cases hx
 have O:=cj Prod.fst hx;simp only [DataW.slice.injEq] at O;obtain ⟨T,X⟩:=O;have g:len=n:=by
  have:=cj List.length T;simp at this;omega
 have C:cap=n:=by
  have J:=(L rfl).1;have h2:=cj List.length X;simp at h2;omega
 have x:=cj Prod.snd hx;simp only at x;have d:∀i j,i<n->j<m->w.cell? ((a.add (i*m)).add j)=some (.int k ((f i).getD j 0)):=by
  intro i j hi E;have J:=q i (by omega);obtain ⟨y,hy⟩:∃y,R[i]?=some y:=⟨R[i]'(by omega),bf (by omega)⟩;rw [hy] at J;obtain ⟨ce,K,r⟩:=Option.bind_eq_some_iff.1 J;have H:y.1=.agg ((f i).map λz=>.lit (.int k z)):=by
   have:=cj (·[i]?) T;simp only [m6,hy,List.getElem?_range hi,fb,au] at this;exact this.symm
  have M:y=(.agg ((f i).map λz=>.lit (.int k z)),y.2):=by rw [<-H]
  rw [M] at r;have A:=ints_of_struct V hf l r;obtain ⟨_,_,v⟩:=World.cells?_some K;rw [l,S] at v;rw [v j E,A,m6,bf (by rw [u i hi];exact E)];simp [List.getD,bf (show j<(f i).length by rw [u i hi];exact E)]
 obtain ⟨b,o,s⟩:=a;have Z:MemPlace.cell b o∈p:=by
  rw [x,l,S,I,g];refine nO.2 (.inl ?_);simp only [MemPlace.row,eY,kX];exact ⟨0,Nat.mul_pos (by omega) D,rfl⟩
 obtain rfl:s=none:=by
  have B:=d 0 0 hn D;have:((Addr.add ⟨b,o,s⟩ (0*m)).add 0)=⟨b,o,s⟩:=by simp [Addr.add]
  rw [this] at B;exact cell_spot B
 obtain ⟨c,N,Q⟩:=hp b o Z;refine ⟨b,o,c,N,by rw [G,g,C],Q,λi j hi E=>?_⟩;have:=d i j hi E;rw [Addr.add_lit,Addr.add_lit,bw Q] at this;rw [<-this,iP]
theorem FM {P:Program} {w:World} {fuel:Nat} {t:TypeId} {u:Array (String×TypeId)} {a:List Value} {b:String} {d:DataW Unit} {p:List MemPlace} (f:P.underlying t=some (.interface u))
  (h:DataW.trod (λ_=>()) P w 0 (λ_=>true) false fuel t a=some (.iface b d,p)):∃c e,a=[.iface c e]:=by
 cases fuel with
 | zero=>simp [DataW.trod] at h
 | succ n=>
  unfold DataW.trod at h;rw [f] at h;split at h<;>simp_all
end Go.Abs
namespace Go.Abs
open Go.Proofs Go.RowKit Go.Lib Go.Proofs.YthemneooekobkabGreatDoor
def QK (i:Nat):List Int:=[sO.getD (i*2) 0,sO.getD (i*2+1) 0]
def Q9 (i:Nat):List Int:=[GW.getD (i*2) 0,GW.getD (i*2+1) 0]
theorem sK {c:Array Value} {o n:Nat} {l:List Int} {f:Nat->List Int} (k:l.length=n*2) (g:((List.range (n*2)).all λi=>l[i]?==some ((f (i / 2)).getD (i%2) 0))=true)
  (h:∀i j,i<n->j<2->c[o+(i*2+j)]?=some (.int .i64 ((f i).getD j 0))):IE c o l:=by
 intro i z b;have hi:i<n*2:=by
  rcases aH i (n*2) with d | d
  ·exact d
  ·rw [g9 (by omega)] at b;cases b
 have a:=cK.1 g i (by simpa using hi);simp only [bI] at a;rw [b,au] at a;have e:=h (i / 2) (i%2) (by omega) (by omega);rw [show i / 2*2+i%2=i by omega] at e;rw [e,<-a]
def Nj:List Int:=(List.range 256).map λc=>(Lib.firstT c:Int)
def Lh (i:Nat):List Int:=[(Lib.accLo i:Int),(Lib.accHi i:Int)]
theorem P7:Rows.laid_unicode_utf8_first=.agg (Nj.map λz=>.lit (.int .u8 z)):=by kernel_rfl
theorem KJ:(Rows.laid_unicode_utf8_acceptRanges:DataW Unit)=DataW.agg ((List.range 16).map λi=>DataW.agg ((Lh i).map λz=>DataW.lit (.int .u8 z))):=by kernel_rfl
theorem IX {w:World} {l:List (String×DataW Unit)} (h:laidMet Tryz.prog l w)
  (m0:("circa/seasons.spans",Rows.laid_circa_seasons_spans)∈l) (m1:("circa/months.lengths",Rows.laid_circa_months_lengths)∈l)
  (m2:("circa/years.steps",Rows.laid_circa_years_steps)∈l) (m3:("strconv.ErrSyntax",Rows.laid_strconv_ErrSyntax)∈l)
  (m4:("unicode/utf8.first",Rows.laid_unicode_utf8_first)∈l) (m5:("unicode/utf8.acceptRanges",Rows.laid_unicode_utf8_acceptRanges)∈l):GL ie w:=by
 obtain ⟨c0,f0,p0,t0,d0,h0,_⟩:=rX h m0 (g:=3) (t:=332) (by kernel_rfl) (by kernel_rfl);obtain ⟨c1,f1,p1,t1,d1,h1,_⟩:=rX h m1 (g:=4) (t:=346) (by kernel_rfl) (by kernel_rfl);obtain ⟨c2,f2,p2,t2,d2,h2,q2⟩:=rX h m2 (g:=8) (t:=359) (by kernel_rfl) (by kernel_rfl);obtain ⟨c4,f4,p4,t4,d4,h4,_⟩:=rX h m3 (g:=0) (t:=160) (by kernel_rfl) (by kernel_rfl);obtain ⟨c5,f5,p5,t5,d5,h5,_⟩:=rX h m4 (g:=5) (t:=347) (by kernel_rfl) (by kernel_rfl);obtain ⟨c6,f6,p6,t6,d6,h6,_⟩:=rX h m5 (g:=6) (t:=350) (by kernel_rfl) (by kernel_rfl);rw [P7] at d5;rw [KJ] at d6;have a5:=zi (l:=Nj) (n:=256) (by kernel_rfl) Tryz.underlying347 Tryz.underlying5 (by kernel_rfl) d5;have a6:=Ds (n:=16) (m:=2) Lh (λ_ _=>rfl) Tryz.underlying350 Tryz.underlying349 (λi f hf=>by
  rcases i with _ | _ | i
  ·cases hf;exact ⟨by kernel_rfl,by kernel_rfl,by kernel_rfl⟩
  ·cases hf;exact ⟨by kernel_rfl,by kernel_rfl,by kernel_rfl⟩
  ·cases hf) (by kernel_rfl) rfl d6
 have a0:=Ds (n:=21) (m:=2) QK (λ_ _=>rfl) Tryz.underlying332 Tryz.underlying331 (λi f hf=>by
  rcases i with _ | _ | i
  ·cases hf;exact ⟨by kernel_rfl,by kernel_rfl,by kernel_rfl⟩
  ·cases hf;exact ⟨by kernel_rfl,by kernel_rfl,by kernel_rfl⟩
  ·cases hf) (by kernel_rfl) rfl d0
 have a1:=zi (l:=GY) (n:=12) rfl Tryz.underlying346 Tryz.underlying3 (by kernel_rfl) d1
 obtain ⟨b,o,c,ty,e2,hb,a2⟩:=Fq (n:=3) (m:=2) Q9 (λ_ _=>rfl) (by omega) (by omega) Tryz.underlying359 Tryz.underlying360 (λi f hf=>by
  rcases i with _ | _ | i
  ·cases hf;exact ⟨by kernel_rfl,by kernel_rfl,by kernel_rfl⟩
  ·cases hf;exact ⟨by kernel_rfl,by kernel_rfl,by kernel_rfl⟩
  ·cases hf) (by kernel_rfl) rfl q2 d2
 obtain ⟨te,pe,e4⟩:=FM Tryz.underlying160 d4;have g0:c0[0]?=some (.int .i64 3):=by rw [<-qK];exact a0 0 0 (by omega) (by omega)
 have g1:c1[0]?=some (.int .i64 31):=by rw [<-qK];exact a1 0 31 rfl
 have pos:∀{c:Array Value} {x:Value},c[0]?=some x->0<c.size:=λ{c} {x} h=>by
  rcases Bj c.size with h' | h'
  ·rw [xM (by omega)] at h;cases h
  ·exact h'
 have g2:c2[0]?=some (.slice (some ⟨b,o,none⟩) 3 3):=by rw [<-qK,e2];rfl
 have g4:c4[0]?=some (.iface te pe):=by rw [<-qK,e4];rfl
 have g5:∀i:Nat,i<256->c5[i]?=some (.int .u8 (Lib.firstT i)):=λi hi=>by
  rw [<-qK];exact a5 i _ (by simp [Nj,hi])
 have g6:∀i:Nat,i<16->c6[i*2]?=some (.int .u8 (Lib.accLo i))/\c6[i*2+1]?=some (.int .u8 (Lib.accHi i)):=λi hi=>
  ⟨by rw [<-qK];exact a6 i 0 hi (by omega),by rw [<-qK];exact a6 i 1 hi (by omega)⟩
 refine ⟨_,⟨c0,c1,c2,c,t0,t1,t2,ty,b,o,⟨c4,t4,(te,(c5,t5),(c6,t6)),pe,rfl,g4,g5,g6⟩,?_,?_,g2,?_⟩,?_,λx _ b q hb=>by cases hb⟩
 ·exact sK (n:=21) (f:=QK) rfl (by decide) λi j hi hj=>by
   rw [da,<-qK];exact a0 i j hi hj
 ·intro i z hz;rw [da,<-qK];exact a1 i z hz
 ·exact sK (n:=3) (f:=Q9) rfl (by decide) λi j hi hj=>a2 i j hi hj
 ·intro x hx;simp only [cL,tc,uP] at hx;rcases hx with rfl | rfl | rfl | rfl | rfl | rfl | rfl
  ·exact h0 (pos g0)
  ·exact h1 (pos g1)
  ·exact h2 (pos g2)
  ·exact hb
  ·exact h4 (pos g4)
  ·exact h5 (pos (g5 0 (by omega)))
  ·exact h6 (pos (g6 0 (by omega)).1)
end Go.Abs
