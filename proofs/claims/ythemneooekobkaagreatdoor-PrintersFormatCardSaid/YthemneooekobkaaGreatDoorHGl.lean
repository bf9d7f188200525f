
/- From the row's laid variables to what the seat's Glob says of the package-level variables.
   Conditions: none. -/
import Derived.Test.YthemneooekobkaaGreatDoorAbsX
import Derived.Test.YthemneooekobkaaGreatDoorProg
import Derived.Test.YthemneooekobkaaGreatDoorRows
import Derived.Lib.LaidU8
import Derived.Lay
import Derived.LaidMore
set_option linter.unusedVariables false
set_option linter.unusedSimpArgs false
set_option maxRecDepth 100000
namespace Go.Abs
open Go.Proofs Go.RowKit Go.Lib
theorem IH {P:Program} {w:World}:∀{l:List (String×DataW Unit)} {c:List MemPlace},DataW.LaidVars P w l c->∀n d,(n,d)∈l->
  ∃g t b fuel p,P.globalNamed n=some g/\(P.globals[g]?).map (·.type)=some t/\w.var? P n=some b/\DataW.trod (λ_=>()) P w 0 (λ_=>true) false fuel t b.toList=some (d,p)/\
   (∀x∈MemPlace.row ⟨g,0,none⟩ b.size,x∈c)/\∀x∈p,x∈c
 | [],_,_,_,_,i=>by cases i
 | (B,d')::r,c,h,n,d,i=>by
  obtain ⟨g,t,b,fuel,p,q,o,v,s,j,m,rfl⟩:=h;rcases cN.1 i with e | e
  ·cases e;exact ⟨g,t,b,fuel,p,o,v,s,j,λx hx=>by simp [hx],λx hx=>by simp [hx]⟩
  ·obtain ⟨u,y,f,a,A,k1,k2,k3,k4,z,k⟩:=IH m n d e;exact ⟨u,y,f,a,A,k1,k2,k3,k4,λx hx=>by simp [z x hx],λx hx=>by simp [k x hx]⟩
theorem sE {P:Program} {w:World} {l:List (String×DataW Unit)} (h:laidMet P l w) {n:String} {d:DataW Unit} (o:(n,d)∈l) {g:Nat} {t:TypeId} (m:P.globalNamed n=some g) (hy:(P.globals[g]?).map (·.type)=some t):
  ∃a fuel p e,DataW.trod (λ_=>()) P w 0 (λ_=>true) false fuel t a.toList=some (d,p)/\(0<a.size->w.heap[g]?=some (.cells a e (0,0)))/\
   ∀b off,MemPlace.cell b off∈p->∃c t,w.heap[b]?=some (.cells c t (0,0)):=by
 obtain ⟨v,k,_,hp⟩:=h;obtain ⟨s,u,a,fuel,p,k1,k2,k3,k4,r,j⟩:=IH k n d o;obtain rfl:=bm (m.symm.trans k1);obtain rfl:=bm (hy.symm.trans k2);obtain ⟨e,f⟩:∃e,0<a.size->w.heap[g]?=some (.cells a e (0,0)):=by
  by_cases hs:0<a.size
  ·obtain ⟨c,e,i⟩:=(hp g 0 (r _ (by simp only [MemPlace.row,eG,jA];exact ⟨0,hs,rfl⟩))).1;refine ⟨e,λ_=>?_⟩;simp only [World.var?,k1,Option.bind_some,i,av] at k3;rw [i,k3]
  ·exact ⟨0,λh=>absurd h hs⟩
 exact ⟨a,fuel,p,e,k4,f,λb off q=>(hp b off (j _ q)).1⟩
theorem Fq {P:Program} {w:World} {fuel:Nat} {t e:TypeId} {n m:Nat} {c:Array Field} {k:IntKind} {s:List Value} {p:List MemPlace} (f:Nat->List Int) (a:∀i,i<n->(f i).length=m)
  (y:P.underlying t=some (.array n e)) (A:P.underlying e=some (.struct c)) (v:∀(i:Nat) (f:Field),c[i]?=some f->P.underlying f.type=some (.int k)/\f.offset=i/\P.cellsOf f.type=1) (b:P.cellsOf e=c.size) (x:c.size=m)
  (h:DataW.trod (λ_=>()) P w 0 (λ_=>true) false fuel t s=some (.agg ((List.range n).map λi=>.agg ((f i).map λz=>.lit (.int k z))),p)):
  ∀i j:Nat,i<n->j<m->s[i*m+j]?=some (Value.int k ((f i).getD j 0)):=by
 intro i j hi o;obtain ⟨g,d,q,r,l⟩:=array_elem y h i hi;rw [nr,List.getElem?_range hi] at r;simp only [fg,av] at r;subst r;have:=ints_of_struct A v b l;have u:=cD (·[j]?) this;simp only [b,x,L6,lV,o,aM,nr] at u;rw [u,aT (by rw [a i hi];exact o)];simp [List.getD,aT (show j<(f i).length by rw [a i hi];exact o)]
theorem zW {P:Program} {w:World} {fuel:Nat} {t e:TypeId} {n:Nat} {k:IntKind} {j:List Value} {p:List MemPlace} {l:List Int} (v:l.length=n)
  (r:P.underlying t=some (.array n e)) (u:P.underlying e=some (.int k)) (f:P.cellsOf e=1)
  (h:DataW.trod (λ_=>()) P w 0 (λ_=>true) false fuel t j=some (.agg (l.map λz=>.lit (.int k z)),p)):
  ∀(i:Nat) (z:Int),l[i]?=some z->j[i]?=some (Value.int k z):=by
 intro i z b;have hi:i<n:=by
  rcases aH i n with m | m
  ·exact m
  ·rw [ga (by omega)] at b;cases b
 obtain ⟨a,d,q,g,c⟩:=array_elem r h i hi;rw [nr,b] at g;simp only [fg,av] at g;subst g;obtain ⟨o,hc,hx,_⟩:=IT u c;have:o=z:=by
  have:=cD Prod.fst hx;simpa using this.symm
 subst this;have s:=cD (·[0]?) hc;simpa [f,L6,lV] using s
theorem GM {P:Program} {w:World} {fuel:Nat} {t e:TypeId} {n m:Nat} {F:Array Field} {k:IntKind} {T:List Value} {p:List MemPlace} (f:Nat->List Int) (D:∀i,i<n->(f i).length=m) (hn:0<n) (B:0<m)
  (W:P.underlying t=some (.slice e)) (Z:P.underlying e=some (.struct F)) (V:∀(i:Nat) (f:Field),F[i]?=some f->P.underlying f.type=some (.int k)/\f.offset=i/\P.cellsOf f.type=1) (q:P.cellsOf e=F.size) (O:F.size=m)
  (hp:∀b off,MemPlace.cell b off∈p->∃c t,w.heap[b]?=some (.cells c t (0,0)))
  (h:DataW.trod (λ_=>()) P w 0 (λ_=>true) false fuel t T=some (.slice ((List.range n).map λi=>.agg ((f i).map λz=>.lit (.int k z))) [],p)):
  ∃b o c L,T=[.slice (some ⟨b,o,none⟩) n n]/\w.heap[b]?=some (.cells c L (0,0))/\∀i j,i<n->j<m->c[o+(i*m+j)]?=some (.int k ((f i).getD j 0)):=by
 rcases DataW.trod_slice W h with ⟨_,hx⟩ | ⟨a,len,cap,R,rs,fu,rfl,N,hx,_,hlc,_,J,l,H,_⟩
 ·cases hx
 have S:=cD Prod.fst hx;simp only [DataW.slice.injEq] at S;obtain ⟨Q,eR⟩:=S;have g:len=n:=by
  have:=cD List.length Q;simp at this;omega
 have u:cap=n:=by
  have K:=(H rfl).1;have Y:=cD List.length eR;simp at Y;omega
 have v:=cD Prod.snd hx;simp only at v;have d:∀i j,i<n->j<m->w.cell? ((a.add (i*m)).add j)=some (.int k ((f i).getD j 0)):=by
  intro i j hi E;have K:=l i (by omega);obtain ⟨y,hy⟩:∃y,R[i]?=some y:=⟨R[i]'(by omega),aT (by omega)⟩;rw [hy] at K;obtain ⟨ce,I,A⟩:=C5.1 K;have M:y.1=.agg ((f i).map λz=>.lit (.int k z)):=by
   have:=cD (·[i]?) Q;simp only [nr,hy,List.getElem?_range hi,fg,av] at this;exact this.symm
  have G:y=(.agg ((f i).map λz=>.lit (.int k z)),y.2):=by rw [<-M]
  rw [G] at A;have C:=ints_of_struct Z V q A;obtain ⟨_,_,r⟩:=FH I;rw [q,O] at r;rw [r j E,C,nr,aT (by rw [D i hi];exact E)];simp [List.getD,aT (show j<(f i).length by rw [D i hi];exact E)]
 obtain ⟨b,o,s⟩:=a;have X:MemPlace.cell b o∈p:=by
  rw [v,q,O,J,g];refine lg.2 (.inl ?_);simp only [MemPlace.row,eG,jA];exact ⟨0,Nat.mul_pos (by omega) B,rfl⟩
 obtain rfl:s=none:=by
  have x:=d 0 0 hn B;have:((Addr.add ⟨b,o,s⟩ (0*m)).add 0)=⟨b,o,s⟩:=by simp [Addr.add]
  rw [this] at x;exact cell_spot x
 obtain ⟨c,L,U⟩:=hp b o X;refine ⟨b,o,c,L,by rw [N,g,u],U,λi j hi E=>?_⟩;have:=d i j hi E;rw [Addr.add_lit,Addr.add_lit,bi U] at this;rw [<-this,gO]
theorem Hh {P:Program} {w:World} {fuel:Nat} {t:TypeId} {u:Array (String×TypeId)} {a:List Value} {f:String} {d:DataW Unit} {p:List MemPlace} (e:P.underlying t=some (.interface u))
  (h:DataW.trod (λ_=>()) P w 0 (λ_=>true) false fuel t a=some (.iface f d,p)):∃c b,a=[.iface c b]:=by
 cases fuel with
 | zero=>simp [DataW.trod] at h
 | succ n=>
  unfold DataW.trod at h;rw [e] at h;split at h<;>simp_all
end Go.Abs
namespace Go.Abs
open Go.Proofs Go.RowKit Go.Lib Go.Proofs.YthemneooekobkaaGreatDoor
def Ss (i:Nat):List Int:=[tq.getD (i*2) 0,tq.getD (i*2+1) 0]
def SS (i:Nat):List Int:=[IB.getD (i*2) 0,IB.getD (i*2+1) 0]
theorem tc {c:Array Value} {o n:Nat} {l:List Int} {f:Nat->List Int} (k:l.length=n*2) (g:((List.range (n*2)).all λi=>l[i]?==some ((f (i / 2)).getD (i%2) 0))=true)
  (h:∀i j,i<n->j<2->c[o+(i*2+j)]?=some (.int .i64 ((f i).getD j 0))):Hr c o l:=by
 intro i z b;have hi:i<n*2:=by
  rcases aH i (n*2) with e | e
  ·exact e
  ·rw [ga (by omega)] at b;cases b
 have a:=bW.1 g i (by simpa using hi);simp only [bp] at a;rw [b,av] at a;have d:=h (i / 2) (i%2) (by omega) (by omega);rw [show i / 2*2+i%2=i by omega] at d;rw [d,<-a]
def MR:List Int:=(List.range 256).map λc=>(Lib.firstT c:Int)
def Pn (i:Nat):List Int:=[(Lib.accLo i:Int),(Lib.accHi i:Int)]
theorem QJ:Rows.laid_unicode_utf8_first=.agg (MR.map λz=>.lit (.int .u8 z)):=by kernel_rfl
theorem Oy:(Rows.laid_unicode_utf8_acceptRanges:DataW Unit)=DataW.agg ((List.range 16).map λi=>DataW.agg ((Pn i).map λz=>DataW.lit (.int .u8 z))):=by kernel_rfl
theorem JC {w:World} {l:List (String×DataW Unit)} (h:laidMet Tryz.prog l w)
  (m0:("circa/seasons.spans",Rows.laid_circa_seasons_spans)∈l) (m1:("circa/months.lengths",Rows.laid_circa_months_lengths)∈l)
  (m2:("circa/years.steps",Rows.laid_circa_years_steps)∈l) (m3:("strconv.ErrSyntax",Rows.laid_strconv_ErrSyntax)∈l)
  (m4:("unicode/utf8.first",Rows.laid_unicode_utf8_first)∈l) (m5:("unicode/utf8.acceptRanges",Rows.laid_unicode_utf8_acceptRanges)∈l):GL gS w:=by
 obtain ⟨c0,f0,p0,t0,d0,h0,_⟩:=sE h m0 (g:=5) (t:=312) (by kernel_rfl) (by kernel_rfl);obtain ⟨c1,f1,p1,t1,d1,h1,_⟩:=sE h m1 (g:=6) (t:=336) (by kernel_rfl) (by kernel_rfl);obtain ⟨c2,f2,p2,t2,d2,h2,q2⟩:=sE h m2 (g:=8) (t:=351) (by kernel_rfl) (by kernel_rfl);obtain ⟨c4,f4,p4,t4,d4,h4,_⟩:=sE h m3 (g:=0) (t:=153) (by kernel_rfl) (by kernel_rfl);obtain ⟨c5,f5,p5,t5,d5,h5,_⟩:=sE h m4 (g:=3) (t:=293) (by kernel_rfl) (by kernel_rfl);obtain ⟨c6,f6,p6,t6,d6,h6,_⟩:=sE h m5 (g:=4) (t:=296) (by kernel_rfl) (by kernel_rfl);rw [QJ] at d5;rw [Oy] at d6;have a5:=zW (l:=MR) (n:=256) (by kernel_rfl) Tryz.underlying293 Tryz.underlying5 (by kernel_rfl) d5;have a6:=Fq (n:=16) (m:=2) Pn (λ_ _=>rfl) Tryz.underlying296 Tryz.underlying295 (λi f hf=>by
  rcases i with _ | _ | i
  ·cases hf;exact ⟨by kernel_rfl,by kernel_rfl,by kernel_rfl⟩
  ·cases hf;exact ⟨by kernel_rfl,by kernel_rfl,by kernel_rfl⟩
  ·cases hf) (by kernel_rfl) rfl d6
 have a0:=Fq (n:=21) (m:=2) Ss (λ_ _=>rfl) Tryz.underlying312 Tryz.underlying311 (λi f hf=>by
  rcases i with _ | _ | i
  ·cases hf;exact ⟨by kernel_rfl,by kernel_rfl,by kernel_rfl⟩
  ·cases hf;exact ⟨by kernel_rfl,by kernel_rfl,by kernel_rfl⟩
  ·cases hf) (by kernel_rfl) rfl d0
 have a1:=zW (l:=IW) (n:=12) rfl Tryz.underlying336 Tryz.underlying3 (by kernel_rfl) d1
 obtain ⟨b,o,c,ty,e2,hb,a2⟩:=GM (n:=3) (m:=2) SS (λ_ _=>rfl) (by omega) (by omega) Tryz.underlying351 Tryz.underlying352 (λi f hf=>by
  rcases i with _ | _ | i
  ·cases hf;exact ⟨by kernel_rfl,by kernel_rfl,by kernel_rfl⟩
  ·cases hf;exact ⟨by kernel_rfl,by kernel_rfl,by kernel_rfl⟩
  ·cases hf) (by kernel_rfl) rfl q2 d2
 obtain ⟨te,pe,e4⟩:=Hh Tryz.underlying153 d4;have g0:c0[0]?=some (.int .i64 3):=by rw [<-qJ];exact a0 0 0 (by omega) (by omega)
 have g1:c1[0]?=some (.int .i64 31):=by rw [<-qJ];exact a1 0 31 rfl
 have pos:∀{c:Array Value} {x:Value},c[0]?=some x->0<c.size:=λ{c} {x} h=>by
  rcases Ce c.size with h' | h'
  ·rw [wx (by omega)] at h;cases h
  ·exact h'
 have g2:c2[0]?=some (.slice (some ⟨b,o,none⟩) 3 3):=by rw [<-qJ,e2];rfl
 have g4:c4[0]?=some (.iface te pe):=by rw [<-qJ,e4];rfl
 have g5:∀i:Nat,i<256->c5[i]?=some (.int .u8 (Lib.firstT i)):=λi hi=>by
  rw [<-qJ];exact a5 i _ (by simp [MR,hi])
 have g6:∀i:Nat,i<16->c6[i*2]?=some (.int .u8 (Lib.accLo i))/\c6[i*2+1]?=some (.int .u8 (Lib.accHi i)):=λi hi=>
  ⟨by rw [<-qJ];exact a6 i 0 hi (by omega),by rw [<-qJ];exact a6 i 1 hi (by omega)⟩
 refine ⟨_,⟨c0,c1,c2,c,t0,t1,t2,ty,b,o,⟨c4,t4,(te,(c5,t5),(c6,t6)),pe,rfl,g4,g5,g6⟩,?_,?_,g2,?_⟩,?_,λx _ b q hb=>by cases hb⟩
 ·exact tc (n:=21) (f:=Ss) rfl (by decide) λi j hi hj=>by
   rw [dc,<-qJ];exact a0 i j hi hj
 ·intro i z hz;rw [dc,<-qJ];exact a1 i z hz
 ·exact tc (n:=3) (f:=SS) rfl (by decide) λi j hi hj=>a2 i j hi hj
 ·intro x hx;simp only [cN,o7,qi] at hx;rcases hx with rfl | rfl | rfl | rfl | rfl | rfl | rfl
  ·exact h0 (pos g0)
  ·exact h1 (pos g1)
  ·exact h2 (pos g2)
  ·exact hb
  ·exact h4 (pos g4)
  ·exact h5 (pos (g5 0 (by omega)))
  ·exact h6 (pos (g6 0 (by omega)).1)
end Go.Abs
