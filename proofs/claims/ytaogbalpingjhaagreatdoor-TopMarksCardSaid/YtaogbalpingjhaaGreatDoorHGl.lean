
/- From the row's laid variables to what the seat's Glob says of the package-level variables.
   Conditions: none. -/
import Derived.Test.YtaogbalpingjhaaGreatDoorAbsX
import Derived.Test.YtaogbalpingjhaaGreatDoorProg
import Derived.Test.YtaogbalpingjhaaGreatDoorRows
import Derived.Lib.LaidU8
import Derived.Lay
import Derived.LaidMore
set_option linter.unusedVariables false
set_option linter.unusedSimpArgs false
set_option maxRecDepth 100000
namespace Go.Abs
open Go.Proofs Go.RowKit Go.Lib
theorem Fb {P:Program} {w:World}:∀{l:List (String×DataW Unit)} {c:List MemPlace},DataW.LaidVars P w l c->∀n d,(n,d)∈l->
  ∃g t b fuel p,P.globalNamed n=some g/\(P.globals[g]?).map (·.type)=some t/\w.var? P n=some b/\DataW.trod (λ_=>()) P w 0 (λ_=>true) false fuel t b.toList=some (d,p)/\
   (∀x∈MemPlace.row ⟨g,0,none⟩ b.size,x∈c)/\∀x∈p,x∈c
 | [],_,_,_,_,f=>by cases f
 | (C,d')::r,c,h,n,d,f=>by
  obtain ⟨g,t,b,fuel,p,q,z,A,y,o,j,rfl⟩:=h;rcases cq.1 f with e | e
  ·cases e;exact ⟨g,t,b,fuel,p,z,A,y,o,λx hx=>by simp [hx],λx hx=>by simp [hx]⟩
  ·obtain ⟨m,u,i,a,v,k1,k2,s,k4,B,k⟩:=Fb j n d e;exact ⟨m,u,i,a,v,k1,k2,s,k4,λx hx=>by simp [B x hx],λx hx=>by simp [k x hx]⟩
theorem oW {P:Program} {w:World} {l:List (String×DataW Unit)} (h:laidMet P l w) {n:String} {d:DataW Unit} (r:(n,d)∈l) {g:Nat} {t:TypeId} (s:P.globalNamed n=some g) (hy:(P.globals[g]?).map (·.type)=some t):
  ∃a fuel p e,DataW.trod (λ_=>()) P w 0 (λ_=>true) false fuel t a.toList=some (d,p)/\(0<a.size->w.heap[g]?=some (.cells a e (0,0)))/\
   ∀b off,MemPlace.cell b off∈p->∃c t,w.heap[b]?=some (.cells c t (0,0)):=by
 obtain ⟨u,q,_,hp⟩:=h;obtain ⟨v,x,a,fuel,p,k1,k2,i,k4,k,m⟩:=Fb q n d r;obtain rfl:=aU (s.symm.trans k1);obtain rfl:=aU (hy.symm.trans k2);obtain ⟨e,f⟩:∃e,0<a.size->w.heap[g]?=some (.cells a e (0,0)):=by
  by_cases hs:0<a.size
  ·obtain ⟨c,e,j⟩:=(hp g 0 (k _ (by simp only [MemPlace.row,dH,jP];exact ⟨0,hs,rfl⟩))).1;refine ⟨e,λ_=>?_⟩;simp only [World.var?,k1,Option.bind_some,j,ah] at i;rw [j,i]
  ·exact ⟨0,λh=>absurd h hs⟩
 exact ⟨a,fuel,p,e,k4,f,λb off o=>(hp b off (m _ o)).1⟩
theorem zj {P:Program} {w:World} {fuel:Nat} {t e:TypeId} {n m:Nat} {c:Array Field} {k:IntKind} {s:List Value} {p:List MemPlace} (f:Nat->List Int) (a:∀i,i<n->(f i).length=m)
  (v:P.underlying t=some (.array n e)) (x:P.underlying e=some (.struct c)) (A:∀(i:Nat) (f:Field),c[i]?=some f->P.underlying f.type=some (.int k)/\f.offset=i/\P.cellsOf f.type=1) (b:P.cellsOf e=c.size) (y:c.size=m)
  (h:DataW.trod (λ_=>()) P w 0 (λ_=>true) false fuel t s=some (.agg ((List.range n).map λi=>.agg ((f i).map λz=>.lit (.int k z))),p)):
  ∀i j:Nat,i<n->j<m->s[i*m+j]?=some (Value.int k ((f i).getD j 0)):=by
 intro i j hi o;obtain ⟨g,d,q,r,l⟩:=array_elem v h i hi;rw [l6,List.getElem?_range hi] at r;simp only [dC,ah] at r;subst r;have:=ints_of_struct x A b l;have u:=ck (·[j]?) this;simp only [b,y,JU,kO,o,aI,l6] at u;rw [u,bG (by rw [a i hi];exact o)];simp [List.getD,bG (show j<(f i).length by rw [a i hi];exact o)]
theorem wE {P:Program} {w:World} {fuel:Nat} {t e:TypeId} {n:Nat} {k:IntKind} {j:List Value} {p:List MemPlace} {l:List Int} (v:l.length=n)
  (o:P.underlying t=some (.array n e)) (r:P.underlying e=some (.int k)) (f:P.cellsOf e=1)
  (h:DataW.trod (λ_=>()) P w 0 (λ_=>true) false fuel t j=some (.agg (l.map λz=>.lit (.int k z)),p)):
  ∀(i:Nat) (z:Int),l[i]?=some z->j[i]?=some (Value.int k z):=by
 intro i z g;have hi:i<n:=by
  rcases aE i n with m | m
  ·exact m
  ·rw [eX (by omega)] at g;cases g
 obtain ⟨a,d,q,c,b⟩:=array_elem o h i hi;rw [l6,g] at c;simp only [dC,ah] at c;subst c;obtain ⟨u,hc,hx,_⟩:=DataW.trod_int r b;have:u=z:=by
  have:=ck Prod.fst hx;simpa using this.symm
 subst this;have s:=ck (·[0]?) hc;simpa [f,JU,kO] using s
theorem B8 {P:Program} {w:World} {fuel:Nat} {t e:TypeId} {n m:Nat} {F:Array Field} {k:IntKind} {O:List Value} {p:List MemPlace} (f:Nat->List Int) (D:∀i,i<n->(f i).length=m) (hn:0<n) (u:0<m)
  (W:P.underlying t=some (.slice e)) (Z:P.underlying e=some (.struct F)) (hf:∀(i:Nat) (f:Field),F[i]?=some f->P.underlying f.type=some (.int k)/\f.offset=i/\P.cellsOf f.type=1) (l:P.cellsOf e=F.size) (S:F.size=m)
  (hp:∀b off,MemPlace.cell b off∈p->∃c t,w.heap[b]?=some (.cells c t (0,0)))
  (h:DataW.trod (λ_=>()) P w 0 (λ_=>true) false fuel t O=some (.slice ((List.range n).map λi=>.agg ((f i).map λz=>.lit (.int k z))) [],p)):
  ∃b o c I,O=[.slice (some ⟨b,o,none⟩) n n]/\w.heap[b]?=some (.cells c I (0,0))/\∀i j,i<n->j<m->c[o+(i*m+j)]?=some (.int k ((f i).getD j 0)):=by
 rcases DataW.trod_slice W h with ⟨_,hx⟩ | ⟨a,len,cap,T,rs,fu,rfl,L,hx,_,V,_,K,q,J,_⟩
 ·cases hx
 have R:=ck Prod.fst hx;simp only [DataW.slice.injEq] at R;obtain ⟨U,X⟩:=R;have g:len=n:=by
  have:=ck List.length U;simp at this;omega
 have x:cap=n:=by
  have H:=(J rfl).1;have h2:=ck List.length X;simp at h2;omega
 have v:=ck Prod.snd hx;simp only at v;have d:∀i j,i<n->j<m->w.cell? ((a.add (i*m)).add j)=some (.int k ((f i).getD j 0)):=by
  intro i j hi E;have H:=q i (by omega);obtain ⟨y,hy⟩:∃y,T[i]?=some y:=⟨T[i]'(by omega),bG (by omega)⟩;rw [hy] at H;obtain ⟨ce,M,C⟩:=JW.1 H;have N:y.1=.agg ((f i).map λz=>.lit (.int k z)):=by
   have:=ck (·[i]?) U;simp only [l6,hy,List.getElem?_range hi,dC,ah] at this;exact this.symm
  have G:y=(.agg ((f i).map λz=>.lit (.int k z)),y.2):=by rw [<-N]
  rw [G] at C;have B:=ints_of_struct Z hf l C;obtain ⟨_,_,r⟩:=World.cells?_some M;rw [l,S] at r;rw [r j E,B,l6,bG (by rw [D i hi];exact E)];simp [List.getD,bG (show j<(f i).length by rw [D i hi];exact E)]
 obtain ⟨b,o,s⟩:=a;have Y:MemPlace.cell b o∈p:=by
  rw [v,l,S,K,g];refine kF.2 (.inl ?_);simp only [MemPlace.row,dH,jP];exact ⟨0,Nat.mul_pos (by omega) u,rfl⟩
 obtain rfl:s=none:=by
  have A:=d 0 0 hn u;have:((Addr.add ⟨b,o,s⟩ (0*m)).add 0)=⟨b,o,s⟩:=by simp [Addr.add]
  rw [this] at A;exact cell_spot A
 obtain ⟨c,I,Q⟩:=hp b o Y;refine ⟨b,o,c,I,by rw [L,g,x],Q,λi j hi E=>?_⟩;have:=d i j hi E;rw [Addr.add_lit,Addr.add_lit,aV Q] at this;rw [<-this,gG]
theorem Bt {P:Program} {w:World} {fuel:Nat} {t:TypeId} {u:Array (String×TypeId)} {a:List Value} {e:String} {d:DataW Unit} {p:List MemPlace} (b:P.underlying t=some (.interface u))
  (h:DataW.trod (λ_=>()) P w 0 (λ_=>true) false fuel t a=some (.iface e d,p)):∃c f,a=[.iface c f]:=by
 cases fuel with
 | zero=>simp [DataW.trod] at h
 | succ n=>
  unfold DataW.trod at h;rw [b] at h;split at h<;>simp_all
end Go.Abs
namespace Go.Abs
open Go.Proofs Go.RowKit Go.Lib Go.Proofs.YtaogbalpingjhaaGreatDoor
def NH (i:Nat):List Int:=[pO.getD (i*2) 0,pO.getD (i*2+1) 0]
def Nz (i:Nat):List Int:=[Dl.getD (i*2) 0,Dl.getD (i*2+1) 0]
theorem pC {c:Array Value} {o n:Nat} {l:List Int} {f:Nat->List Int} (k:l.length=n*2) (g:((List.range (n*2)).all λi=>l[i]?==some ((f (i / 2)).getD (i%2) 0))=true)
  (h:∀i j,i<n->j<2->c[o+(i*2+j)]?=some (.int .i64 ((f i).getD j 0))):E6 c o l:=by
 intro i z b;have hi:i<n*2:=by
  rcases aE i (n*2) with d | d
  ·exact d
  ·rw [eX (by omega)] at b;cases b
 have a:=bL.1 g i (by simpa using hi);simp only [bA] at a;rw [b,ah] at a;have e:=h (i / 2) (i%2) (by omega) (by omega);rw [show i / 2*2+i%2=i by omega] at e;rw [e,<-a]
def GY:List Int:=(List.range 256).map λc=>(Lib.firstT c:Int)
def GA (i:Nat):List Int:=[(Lib.accLo i:Int),(Lib.accHi i:Int)]
theorem ML:Rows.laid_unicode_utf8_first=.agg (GY.map λz=>.lit (.int .u8 z)):=by kernel_rfl
theorem Hr:(Rows.laid_unicode_utf8_acceptRanges:DataW Unit)=DataW.agg ((List.range 16).map λi=>DataW.agg ((GA i).map λz=>DataW.lit (.int .u8 z))):=by kernel_rfl
theorem Gv {w:World} {l:List (String×DataW Unit)} (h:laidMet Tryz.prog l w)
  (m0:("circa/seasons.spans",Rows.laid_circa_seasons_spans)∈l) (m1:("circa/months.lengths",Rows.laid_circa_months_lengths)∈l)
  (m2:("circa/years.steps",Rows.laid_circa_years_steps)∈l) (m3:("strconv.ErrSyntax",Rows.laid_strconv_ErrSyntax)∈l)
  (m4:("unicode/utf8.first",Rows.laid_unicode_utf8_first)∈l) (m5:("unicode/utf8.acceptRanges",Rows.laid_unicode_utf8_acceptRanges)∈l):GL fP w:=by
 obtain ⟨c0,f0,p0,t0,d0,h0,_⟩:=oW h m0 (g:=4) (t:=277) (by kernel_rfl) (by kernel_rfl);obtain ⟨c1,f1,p1,t1,d1,h1,_⟩:=oW h m1 (g:=0) (t:=179) (by kernel_rfl) (by kernel_rfl);obtain ⟨c2,f2,p2,t2,d2,h2,q2⟩:=oW h m2 (g:=1) (t:=243) (by kernel_rfl) (by kernel_rfl);obtain ⟨c4,f4,p4,t4,d4,h4,_⟩:=oW h m3 (g:=2) (t:=84) (by kernel_rfl) (by kernel_rfl);obtain ⟨c5,f5,p5,t5,d5,h5,_⟩:=oW h m4 (g:=7) (t:=294) (by kernel_rfl) (by kernel_rfl);obtain ⟨c6,f6,p6,t6,d6,h6,_⟩:=oW h m5 (g:=8) (t:=297) (by kernel_rfl) (by kernel_rfl);rw [ML] at d5;rw [Hr] at d6;have a5:=wE (l:=GY) (n:=256) (by kernel_rfl) Tryz.underlying294 Tryz.underlying5 (by kernel_rfl) d5;have a6:=zj (n:=16) (m:=2) GA (λ_ _=>rfl) Tryz.underlying297 Tryz.underlying296 (λi f hf=>by
  rcases i with _ | _ | i
  ·cases hf;exact ⟨by kernel_rfl,by kernel_rfl,by kernel_rfl⟩
  ·cases hf;exact ⟨by kernel_rfl,by kernel_rfl,by kernel_rfl⟩
  ·cases hf) (by kernel_rfl) rfl d6
 have a0:=zj (n:=21) (m:=2) NH (λ_ _=>rfl) Tryz.underlying277 Tryz.underlying276 (λi f hf=>by
  rcases i with _ | _ | i
  ·cases hf;exact ⟨by kernel_rfl,by kernel_rfl,by kernel_rfl⟩
  ·cases hf;exact ⟨by kernel_rfl,by kernel_rfl,by kernel_rfl⟩
  ·cases hf) (by kernel_rfl) rfl d0
 have a1:=wE (l:=D4) (n:=12) rfl Tryz.underlying179 Tryz.underlying3 (by kernel_rfl) d1
 obtain ⟨b,o,c,ty,e2,hb,a2⟩:=B8 (n:=3) (m:=2) Nz (λ_ _=>rfl) (by omega) (by omega) Tryz.underlying243 Tryz.underlying244 (λi f hf=>by
  rcases i with _ | _ | i
  ·cases hf;exact ⟨by kernel_rfl,by kernel_rfl,by kernel_rfl⟩
  ·cases hf;exact ⟨by kernel_rfl,by kernel_rfl,by kernel_rfl⟩
  ·cases hf) (by kernel_rfl) rfl q2 d2
 obtain ⟨te,pe,e4⟩:=Bt Tryz.underlying84 d4;have g0:c0[0]?=some (.int .i64 3):=by rw [<-nT];exact a0 0 0 (by omega) (by omega)
 have g1:c1[0]?=some (.int .i64 31):=by rw [<-nT];exact a1 0 31 rfl
 have pos:∀{c:Array Value} {x:Value},c[0]?=some x->0<c.size:=λ{c} {x} h=>by
  rcases xA c.size with h' | h'
  ·rw [tZ (by omega)] at h;cases h
  ·exact h'
 have g2:c2[0]?=some (.slice (some ⟨b,o,none⟩) 3 3):=by rw [<-nT,e2];rfl
 have g4:c4[0]?=some (.iface te pe):=by rw [<-nT,e4];rfl
 have g5:∀i:Nat,i<256->c5[i]?=some (.int .u8 (Lib.firstT i)):=λi hi=>by
  rw [<-nT];exact a5 i _ (by simp [GY,hi])
 have g6:∀i:Nat,i<16->c6[i*2]?=some (.int .u8 (Lib.accLo i))/\c6[i*2+1]?=some (.int .u8 (Lib.accHi i)):=λi hi=>
  ⟨by rw [<-nT];exact a6 i 0 hi (by omega),by rw [<-nT];exact a6 i 1 hi (by omega)⟩
 refine ⟨_,⟨c0,c1,c2,c,t0,t1,t2,ty,b,o,⟨c4,t4,(te,(c5,t5),(c6,t6)),pe,rfl,g4,g5,g6⟩,?_,?_,g2,?_⟩,?_,λx _ b q hb=>by cases hb⟩
 ·exact pC (n:=21) (f:=NH) rfl (by decide) λi j hi hj=>by
   rw [cb,<-nT];exact a0 i j hi hj
 ·intro i z hz;rw [cb,<-nT];exact a1 i z hz
 ·exact pC (n:=3) (f:=Nz) rfl (by decide) λi j hi hj=>a2 i j hi hj
 ·intro x hx;simp only [cq,qs,rX] at hx;rcases hx with rfl | rfl | rfl | rfl | rfl | rfl | rfl
  ·exact h0 (pos g0)
  ·exact h1 (pos g1)
  ·exact h2 (pos g2)
  ·exact hb
  ·exact h4 (pos g4)
  ·exact h5 (pos (g5 0 (by omega)))
  ·exact h6 (pos (g6 0 (by omega)).1)
end Go.Abs
