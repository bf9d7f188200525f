
/- From the row's laid variables to what the seat's Glob says of the package-level variables.
   Conditions: none. -/
import Derived.Test.YtfiponokimbeeaaGreatDoorAbsX
import Derived.Test.YtfiponokimbeeaaGreatDoorProg
import Derived.Test.YtfiponokimbeeaaGreatDoorRows
import Derived.Lib.LaidU8
import Derived.Lay
import Derived.LaidMore
set_option linter.unusedVariables false
set_option linter.unusedSimpArgs false
set_option maxRecDepth 100000
namespace Go.Abs
open Go.Proofs Go.RowKit Go.Lib
theorem G6 {P:Program} {w:World}:∀{l:List (String×DataW Unit)} {c:List MemPlace},DataW.LaidVars P w l c->∀n d,(n,d)∈l->
  ∃g t b fuel p,P.globalNamed n=some g/\(P.globals[g]?).map (·.type)=some t/\w.var? P n=some b/\DataW.trod (λ_=>()) P w 0 (λ_=>true) false fuel t b.toList=some (d,p)/\
   (∀x∈MemPlace.row ⟨g,0,none⟩ b.size,x∈c)/\∀x∈p,x∈c
 | [],_,_,_,_,i=>by cases i
 | (C,d')::r,c,h,n,d,i=>by
  obtain ⟨g,t,b,fuel,p,q,k,A,j,B,o,rfl⟩:=h;rcases dr.1 i with e | e
  ·cases e;exact ⟨g,t,b,fuel,p,k,A,j,B,λx hx=>by simp [hx],λx hx=>by simp [hx]⟩
  ·obtain ⟨v,z,f,a,u,k1,k2,s,k4,y,m⟩:=G6 o n d e;exact ⟨v,z,f,a,u,k1,k2,s,k4,λx hx=>by simp [y x hx],λx hx=>by simp [m x hx]⟩
theorem rR {P:Program} {w:World} {l:List (String×DataW Unit)} (h:laidMet P l w) {n:String} {d:DataW Unit} (o:(n,d)∈l) {g:Nat} {t:TypeId} (q:P.globalNamed n=some g) (hy:(P.globals[g]?).map (·.type)=some t):
  ∃a fuel p e,DataW.trod (λ_=>()) P w 0 (λ_=>true) false fuel t a.toList=some (d,p)/\(0<a.size->w.heap[g]?=some (.cells a e (0,0)))/\
   ∀b off,MemPlace.cell b off∈p->∃c t,w.heap[b]?=some (.cells c t (0,0)):=by
 obtain ⟨v,r,_,hp⟩:=h;obtain ⟨x,u,a,fuel,p,k1,k2,j,k4,s,m⟩:=G6 r n d o;obtain rfl:=aZ (q.symm.trans k1);obtain rfl:=aZ (hy.symm.trans k2);obtain ⟨e,f⟩:∃e,0<a.size->w.heap[g]?=some (.cells a e (0,0)):=by
  by_cases hs:0<a.size
  ·obtain ⟨c,e,i⟩:=(hp g 0 (s _ (by simp only [MemPlace.row,eZ,kR];exact ⟨0,hs,rfl⟩))).1;refine ⟨e,λ_=>?_⟩;simp only [World.var?,k1,Option.bind_some,i,au] at j;rw [i,j]
  ·exact ⟨0,λh=>absurd h hs⟩
 exact ⟨a,fuel,p,e,k4,f,λb off k=>(hp b off (m _ k)).1⟩
theorem Dm {P:Program} {w:World} {fuel:Nat} {t e:TypeId} {n m:Nat} {c:Array Field} {k:IntKind} {s:List Value} {p:List MemPlace} (f:Nat->List Int) (b:∀i,i<n->(f i).length=m)
  (v:P.underlying t=some (.array n e)) (y:P.underlying e=some (.struct c)) (x:∀(i:Nat) (f:Field),c[i]?=some f->P.underlying f.type=some (.int k)/\f.offset=i/\P.cellsOf f.type=1) (a:P.cellsOf e=c.size) (A:c.size=m)
  (h:DataW.trod (λ_=>()) P w 0 (λ_=>true) false fuel t s=some (.agg ((List.range n).map λi=>.agg ((f i).map λz=>.lit (.int k z))),p)):
  ∀i j:Nat,i<n->j<m->s[i*m+j]?=some (Value.int k ((f i).getD j 0)):=by
 intro i j hi l;obtain ⟨g,d,q,o,r⟩:=array_elem v h i hi;rw [mO,List.getElem?_range hi] at o;simp only [eX,au] at o;subst o;have:=ints_of_struct y x a r;have u:=ch (·[j]?) this;simp only [a,A,KE,mL,l,aJ,mO] at u;rw [u,be (by rw [b i hi];exact l)];simp [List.getD,be (show j<(f i).length by rw [b i hi];exact l)]
theorem zw {P:Program} {w:World} {fuel:Nat} {t e:TypeId} {n:Nat} {k:IntKind} {m:List Value} {p:List MemPlace} {l:List Int} (v:l.length=n)
  (o:P.underlying t=some (.array n e)) (s:P.underlying e=some (.int k)) (b:P.cellsOf e=1)
  (h:DataW.trod (λ_=>()) P w 0 (λ_=>true) false fuel t m=some (.agg (l.map λz=>.lit (.int k z)),p)):
  ∀(i:Nat) (z:Int),l[i]?=some z->m[i]?=some (Value.int k z):=by
 intro i z g;have hi:i<n:=by
  rcases aH i n with j | j
  ·exact j
  ·rw [gW (by omega)] at g;cases g
 obtain ⟨a,d,q,c,f⟩:=array_elem o h i hi;rw [mO,g] at c;simp only [eX,au] at c;subst c;obtain ⟨r,hc,hx,_⟩:=DataW.trod_int s f;have:r=z:=by
  have:=ch Prod.fst hx;simpa using this.symm
 subst this;have u:=ch (·[0]?) hc;simpa [b,KE,mL] using u
theorem E6 {P:Program} {w:World} {fuel:Nat} {t e:TypeId} {n m:Nat} {F:Array Field} {k:IntKind} {R:List Value} {p:List MemPlace} (f:Nat->List Int) (v:∀i,i<n->(f i).length=m) (hn:0<n) (C:0<m)
  (V:P.underlying t=some (.slice e)) (he:P.underlying e=some (.struct F)) (Z:∀(i:Nat) (f:Field),F[i]?=some f->P.underlying f.type=some (.int k)/\f.offset=i/\P.cellsOf f.type=1) (l:P.cellsOf e=F.size) (U:F.size=m)
  (hp:∀b off,MemPlace.cell b off∈p->∃c t,w.heap[b]?=some (.cells c t (0,0)))
  (h:DataW.trod (λ_=>()) P w 0 (λ_=>true) false fuel t R=some (.slice ((List.range n).map λi=>.agg ((f i).map λz=>.lit (.int k z))) [],p)):
  ∃b o c I,R=[.slice (some ⟨b,o,none⟩) n n]/\w.heap[b]?=some (.cells c I (0,0))/\∀i j,i<n->j<m->c[o+(i*m+j)]?=some (.int k ((f i).getD j 0)):=by
 rcases DataW.trod_slice V h with ⟨_,hx⟩ | ⟨a,len,cap,S,rs,fu,rfl,J,hx,_,Y,_,L,q,K,_⟩
 ·cases hx
 have O:=ch Prod.fst hx;simp only [DataW.slice.injEq] at O;obtain ⟨Q,eR⟩:=O;have g:len=n:=by
  have:=ch List.length Q;simp at this;omega
 have E:cap=n:=by
  have G:=(K rfl).1;have W:=ch List.length eR;simp at W;omega
 have x:=ch Prod.snd hx;simp only at x;have d:∀i j,i<n->j<m->w.cell? ((a.add (i*m)).add j)=some (.int k ((f i).getD j 0)):=by
  intro i j hi r;have G:=q i (by omega);obtain ⟨y,hy⟩:∃y,S[i]?=some y:=⟨S[i]'(by omega),be (by omega)⟩;rw [hy] at G;obtain ⟨ce,H,A⟩:=Option.bind_eq_some_iff.1 G;have N:y.1=.agg ((f i).map λz=>.lit (.int k z)):=by
   have:=ch (·[i]?) Q;simp only [mO,hy,List.getElem?_range hi,eX,au] at this;exact this.symm
  have M:y=(.agg ((f i).map λz=>.lit (.int k z)),y.2):=by rw [<-N]
  rw [M] at A;have u:=ints_of_struct he Z l A;obtain ⟨_,_,B⟩:=World.cells?_some H;rw [l,U] at B;rw [B j r,u,mO,be (by rw [v i hi];exact r)];simp [List.getD,be (show j<(f i).length by rw [v i hi];exact r)]
 obtain ⟨b,o,s⟩:=a;have X:MemPlace.cell b o∈p:=by
  rw [x,l,U,L,g];refine n7.2 (.inl ?_);simp only [MemPlace.row,eZ,kR];exact ⟨0,Nat.mul_pos (by omega) C,rfl⟩
 obtain rfl:s=none:=by
  have D:=d 0 0 hn C;have:((Addr.add ⟨b,o,s⟩ (0*m)).add 0)=⟨b,o,s⟩:=by simp [Addr.add]
  rw [this] at D;exact cell_spot D
 obtain ⟨c,I,T⟩:=hp b o X;refine ⟨b,o,c,I,by rw [J,g,E],T,λi j hi r=>?_⟩;have:=d i j hi r;rw [Addr.add_lit,Addr.add_lit,bp T] at this;rw [<-this,gY]
theorem EP {P:Program} {w:World} {fuel:Nat} {t:TypeId} {u:Array (String×TypeId)} {a:List Value} {f:String} {d:DataW Unit} {p:List MemPlace} (c:P.underlying t=some (.interface u))
  (h:DataW.trod (λ_=>()) P w 0 (λ_=>true) false fuel t a=some (.iface f d,p)):∃e b,a=[.iface e b]:=by
 cases fuel with
 | zero=>simp [DataW.trod] at h
 | succ n=>
  unfold DataW.trod at h;rw [c] at h;split at h<;>simp_all
end Go.Abs
namespace Go.Abs
open Go.Proofs Go.RowKit Go.Lib Go.Proofs.YtfiponokimbeeaaGreatDoor
def Qx (i:Nat):List Int:=[sq.getD (i*2) 0,sq.getD (i*2+1) 0]
def QQ (i:Nat):List Int:=[GT.getD (i*2) 0,GT.getD (i*2+1) 0]
theorem sg {c:Array Value} {o n:Nat} {l:List Int} {f:Nat->List Int} (k:l.length=n*2) (g:((List.range (n*2)).all λi=>l[i]?==some ((f (i / 2)).getD (i%2) 0))=true)
  (h:∀i j,i<n->j<2->c[o+(i*2+j)]?=some (.int .i64 ((f i).getD j 0))):Gl c o l:=by
 intro i z b;have hi:i<n*2:=by
  rcases aH i (n*2) with d | d
  ·exact d
  ·rw [gW (by omega)] at b;cases b
 have a:=cL.1 g i (by simpa using hi);simp only [bI] at a;rw [b,au] at a;have e:=h (i / 2) (i%2) (by omega) (by omega);rw [show i / 2*2+i%2=i by omega] at e;rw [e,<-a]
def Jk:List Int:=(List.range 256).map λc=>(Lib.firstT c:Int)
def KY (i:Nat):List Int:=[(Lib.accLo i:Int),(Lib.accHi i:Int)]
theorem Po:Rows.laid_unicode_utf8_first=.agg (Jk.map λz=>.lit (.int .u8 z)):=by kernel_rfl
theorem Jn:(Rows.laid_unicode_utf8_acceptRanges:DataW Unit)=DataW.agg ((List.range 16).map λi=>DataW.agg ((KY i).map λz=>DataW.lit (.int .u8 z))):=by kernel_rfl
theorem IF {w:World} {l:List (String×DataW Unit)} (h:laidMet Tryz.prog l w)
  (m0:("circa/seasons.spans",Rows.laid_circa_seasons_spans)∈l) (m1:("circa/months.lengths",Rows.laid_circa_months_lengths)∈l)
  (m2:("circa/years.steps",Rows.laid_circa_years_steps)∈l) (m3:("strconv.ErrSyntax",Rows.laid_strconv_ErrSyntax)∈l)
  (m4:("unicode/utf8.first",Rows.laid_unicode_utf8_first)∈l) (m5:("unicode/utf8.acceptRanges",Rows.laid_unicode_utf8_acceptRanges)∈l):GL ie w:=by
 obtain ⟨c0,f0,p0,t0,d0,h0,_⟩:=rR h m0 (g:=2) (t:=304) (by kernel_rfl) (by kernel_rfl);obtain ⟨c1,f1,p1,t1,d1,h1,_⟩:=rR h m1 (g:=3) (t:=307) (by kernel_rfl) (by kernel_rfl);obtain ⟨c2,f2,p2,t2,d2,h2,q2⟩:=rR h m2 (g:=5) (t:=331) (by kernel_rfl) (by kernel_rfl);obtain ⟨c4,f4,p4,t4,d4,h4,_⟩:=rR h m3 (g:=0) (t:=124) (by kernel_rfl) (by kernel_rfl);obtain ⟨c5,f5,p5,t5,d5,h5,_⟩:=rR h m4 (g:=7) (t:=361) (by kernel_rfl) (by kernel_rfl);obtain ⟨c6,f6,p6,t6,d6,h6,_⟩:=rR h m5 (g:=8) (t:=364) (by kernel_rfl) (by kernel_rfl);rw [Po] at d5;rw [Jn] at d6;have a5:=zw (l:=Jk) (n:=256) (by kernel_rfl) Tryz.underlying361 Tryz.underlying5 (by kernel_rfl) d5;have a6:=Dm (n:=16) (m:=2) KY (λ_ _=>rfl) Tryz.underlying364 Tryz.underlying363 (λi f hf=>by
  rcases i with _ | _ | i
  ·cases hf;exact ⟨by kernel_rfl,by kernel_rfl,by kernel_rfl⟩
  ·cases hf;exact ⟨by kernel_rfl,by kernel_rfl,by kernel_rfl⟩
  ·cases hf) (by kernel_rfl) rfl d6
 have a0:=Dm (n:=21) (m:=2) Qx (λ_ _=>rfl) Tryz.underlying304 Tryz.underlying303 (λi f hf=>by
  rcases i with _ | _ | i
  ·cases hf;exact ⟨by kernel_rfl,by kernel_rfl,by kernel_rfl⟩
  ·cases hf;exact ⟨by kernel_rfl,by kernel_rfl,by kernel_rfl⟩
  ·cases hf) (by kernel_rfl) rfl d0
 have a1:=zw (l:=Hr) (n:=12) rfl Tryz.underlying307 Tryz.underlying3 (by kernel_rfl) d1
 obtain ⟨b,o,c,ty,e2,hb,a2⟩:=E6 (n:=3) (m:=2) QQ (λ_ _=>rfl) (by omega) (by omega) Tryz.underlying331 Tryz.underlying332 (λi f hf=>by
  rcases i with _ | _ | i
  ·cases hf;exact ⟨by kernel_rfl,by kernel_rfl,by kernel_rfl⟩
  ·cases hf;exact ⟨by kernel_rfl,by kernel_rfl,by kernel_rfl⟩
  ·cases hf) (by kernel_rfl) rfl q2 d2
 obtain ⟨te,pe,e4⟩:=EP Tryz.underlying124 d4;have g0:c0[0]?=some (.int .i64 3):=by rw [<-qk];exact a0 0 0 (by omega) (by omega)
 have g1:c1[0]?=some (.int .i64 31):=by rw [<-qk];exact a1 0 31 rfl
 have pos:∀{c:Array Value} {x:Value},c[0]?=some x->0<c.size:=λ{c} {x} h=>by
  rcases AK c.size with h' | h'
  ·rw [wR (by omega)] at h;cases h
  ·exact h'
 have g2:c2[0]?=some (.slice (some ⟨b,o,none⟩) 3 3):=by rw [<-qk,e2];rfl
 have g4:c4[0]?=some (.iface te pe):=by rw [<-qk,e4];rfl
 have g5:∀i:Nat,i<256->c5[i]?=some (.int .u8 (Lib.firstT i)):=λi hi=>by
  rw [<-qk];exact a5 i _ (by simp [Jk,hi])
 have g6:∀i:Nat,i<16->c6[i*2]?=some (.int .u8 (Lib.accLo i))/\c6[i*2+1]?=some (.int .u8 (Lib.accHi i)):=λi hi=>
  ⟨by rw [<-qk];exact a6 i 0 hi (by omega),by rw [<-qk];exact a6 i 1 hi (by omega)⟩
 refine ⟨_,⟨c0,c1,c2,c,t0,t1,t2,ty,b,o,⟨c4,t4,(te,(c5,t5),(c6,t6)),pe,rfl,g4,g5,g6⟩,?_,?_,g2,?_⟩,?_,λx _ b q hb=>by cases hb⟩
 ·exact sg (n:=21) (f:=Qx) rfl (by decide) λi j hi hj=>by
   rw [dq,<-qk];exact a0 i j hi hj
 ·intro i z hz;rw [dq,<-qk];exact a1 i z hz
 ·exact sg (n:=3) (f:=QQ) rfl (by decide) λi j hi hj=>a2 i j hi hj
 ·intro x hx;simp only [dr,sW,uz] at hx;rcases hx with rfl | rfl | rfl | rfl | rfl | rfl | rfl
  ·exact h0 (pos g0)
  ·exact h1 (pos g1)
  ·exact h2 (pos g2)
  ·exact hb
  ·exact h4 (pos g4)
  ·exact h5 (pos (g5 0 (by omega)))
  ·exact h6 (pos (g6 0 (by omega)).1)
end Go.Abs
