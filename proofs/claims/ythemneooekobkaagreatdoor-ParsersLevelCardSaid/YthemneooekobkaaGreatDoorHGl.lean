
/- From the row's laid variables to what the seat's Glob says of the package-level variables.
   Conditions: none. -/
import Derived.Test.YthemneooekobkaaGreatDoorAbsX
import Derived.Test.YthemneooekobkaaGreatDoorProg
import Derived.Test.YthemneooekobkaaGreatDoorRows
import Derived.Lib.LaidU8
import Derived.Lay
import Derived.LaidMore
set_option linter.unusedVariables false
set_option linter.unusedSimpArgs false
set_option maxRecDepth 100000
namespace Go.Abs
open Go.Proofs Go.RowKit Go.Lib
theorem D8 {P:Program} {w:World}:∀{l:List (String×DataW Unit)} {f:List MemPlace},DataW.LaidVars P w l f->∀n d,(n,d)∈l->
  ∃g t c fuel p,P.globalNamed n=some g/\(P.globals[g]?).map (·.type)=some t/\w.var? P n=some c/\DataW.trod (λ_=>()) P w 0 (λ_=>true) false fuel t c.toList=some (d,p)/\
   (∀x∈MemPlace.row ⟨g,0,none⟩ c.size,x∈f)/\∀x∈p,x∈f
 | [],_,_,_,_,j=>by cases j
 | (D,d')::r,f,h,n,d,j=>by
  obtain ⟨g,t,c,fuel,p,q,C,v,y,k,B,rfl⟩:=h;rcases cq.1 j with e | e
  ·cases e;exact ⟨g,t,c,fuel,p,C,v,y,k,λx b=>by simp [b],λx b=>by simp [b]⟩
  ·obtain ⟨o,m,i,a,A,k1,k2,s,k4,u,z⟩:=D8 B n d e;exact ⟨o,m,i,a,A,k1,k2,s,k4,λx b=>by simp [u x b],λx b=>by simp [z x b]⟩
theorem pm {P:Program} {w:World} {l:List (String×DataW Unit)} (h:laidMet P l w) {n:String} {d:DataW Unit} (u:(n,d)∈l) {g:Nat} {t:TypeId} (r:P.globalNamed n=some g) (q:(P.globals[g]?).map (·.type)=some t):
  ∃a fuel p e,DataW.trod (λ_=>()) P w 0 (λ_=>true) false fuel t a.toList=some (d,p)/\(0<a.size->w.heap[g]?=some (.cells a e (0,0)))/\
   ∀b off,MemPlace.cell b off∈p->∃c t,w.heap[b]?=some (.cells c t (0,0)):=by
 obtain ⟨z,x,_,j⟩:=h;obtain ⟨A,y,a,fuel,p,k1,k2,i,k4,o,s⟩:=D8 x n d u;obtain rfl:=aY (r.symm.trans k1);obtain rfl:=aY (q.symm.trans k2);obtain ⟨e,f⟩:∃e,0<a.size->w.heap[g]?=some (.cells a e (0,0)):=by
  by_cases m:0<a.size
  ·obtain ⟨c,e,k⟩:=(j g 0 (o _ (by simp only [MemPlace.row,du,jy];exact ⟨0,m,rfl⟩))).1;refine ⟨e,λ_=>?_⟩;simp only [World.var?,k1,Option.bind_some,k,aq] at i;rw [k,i]
  ·exact ⟨0,λh=>absurd h m⟩
 exact ⟨a,fuel,p,e,k4,f,λb off v=>(j b off (s _ v)).1⟩
theorem zM {P:Program} {w:World} {fuel:Nat} {t e:TypeId} {n m:Nat} {c:Array Field} {k:IntKind} {s:List Value} {p:List MemPlace} (f:Nat->List Int) (b:∀i,i<n->(f i).length=m)
  (y:P.underlying t=some (.array n e)) (x:P.underlying e=some (.struct c)) (v:∀(i:Nat) (f:Field),c[i]?=some f->P.underlying f.type=some (.int k)/\f.offset=i/\P.cellsOf f.type=1) (a:P.cellsOf e=c.size) (A:c.size=m)
  (h:DataW.trod (λ_=>()) P w 0 (λ_=>true) false fuel t s=some (.agg ((List.range n).map λi=>.agg ((f i).map λz=>.lit (.int k z))),p)):
  ∀i j:Nat,i<n->j<m->s[i*m+j]?=some (Value.int k ((f i).getD j 0)):=by
 intro i j hi o;obtain ⟨g,d,q,l,r⟩:=array_elem y h i hi;rw [nV,List.getElem?_range hi] at l;simp only [ew,aq] at l;subst l;have:=ints_of_struct x v a r;have u:=cK (·[j]?) this;simp only [a,A,Je,lw,o,aJ,nV] at u;rw [u,bj (by rw [b i hi];exact o)];simp [List.getD,bj (show j<(f i).length by rw [b i hi];exact o)]
theorem wz {P:Program} {w:World} {fuel:Nat} {t e:TypeId} {n:Nat} {k:IntKind} {m:List Value} {p:List MemPlace} {l:List Int} (x:l.length=n)
  (s:P.underlying t=some (.array n e)) (o:P.underlying e=some (.int k)) (c:P.cellsOf e=1)
  (h:DataW.trod (λ_=>()) P w 0 (λ_=>true) false fuel t m=some (.agg (l.map λz=>.lit (.int k z)),p)):
  ∀(i:Nat) (z:Int),l[i]?=some z->m[i]?=some (Value.int k z):=by
 intro i z f;have hi:i<n:=by
  rcases aF i n with j | j
  ·exact j
  ·rw [fU (by omega)] at f;cases f
 obtain ⟨b,d,q,a,g⟩:=array_elem s h i hi;rw [nV,f] at a;simp only [ew,aq] at a;subst a;obtain ⟨v,hc,u,_⟩:=DataW.trod_int o g;have:v=z:=by
  have:=cK Prod.fst u;simpa using this.symm
 subst this;have r:=cK (·[0]?) hc;simpa [c,Je,lw] using r
theorem B9 {P:Program} {w:World} {fuel:Nat} {t e:TypeId} {n m:Nat} {fs:Array Field} {k:IntKind} {cs:List Value} {p:List MemPlace} (f:Nat->List Int) (hf0:∀i,i<n->(f i).length=m) (hn:0<n) (hm0:0<m)
  (ht:P.underlying t=some (.slice e)) (he:P.underlying e=some (.struct fs)) (hf:∀(i:Nat) (f:Field),fs[i]?=some f->P.underlying f.type=some (.int k)/\f.offset=i/\P.cellsOf f.type=1) (hct:P.cellsOf e=fs.size) (hm:fs.size=m)
  (hp:∀b off,MemPlace.cell b off∈p->∃c t,w.heap[b]?=some (.cells c t (0,0)))
  (h:DataW.trod (λ_=>()) P w 0 (λ_=>true) false fuel t cs=some (.slice ((List.range n).map λi=>.agg ((f i).map λz=>.lit (.int k z))) [],p)):
  ∃b o c ty,cs=[.slice (some ⟨b,o,none⟩) n n]/\w.heap[b]?=some (.cells c ty (0,0))/\∀i j,i<n->j<m->c[o+(i*m+j)]?=some (.int k ((f i).getD j 0)):=by
 rcases DataW.trod_slice ht h with ⟨_,hx⟩ | ⟨a,len,cap,el,rs,fu,rfl,hcs,hx,_,hlc,_,hel,helem,hsp,_⟩
 ·cases hx
 have e0:=cK Prod.fst hx;simp only [DataW.slice.injEq] at e0;obtain ⟨eE,eR⟩:=e0;have hlen:len=n:=by
  have:=cK List.length eE;simp at this;omega
 have hcap:cap=n:=by
  have h1:=(hsp rfl).1;have h2:=cK List.length eR;simp at h2;omega
 have hp2:=cK Prod.snd hx;simp only at hp2;have hcell:∀i j,i<n->j<m->w.cell? ((a.add (i*m)).add j)=some (.int k ((f i).getD j 0)):=by
  intro i j hi hj;have h1:=helem i (by omega);obtain ⟨y,hy⟩:∃y,el[i]?=some y:=⟨el[i]'(by omega),bj (by omega)⟩;rw [hy] at h1;obtain ⟨ce,hce,hte⟩:=IK.1 h1;have hy1:y.1=.agg ((f i).map λz=>.lit (.int k z)):=by
   have:=cK (·[i]?) eE;simp only [nV,hy,List.getElem?_range hi,ew,aq] at this;exact this.symm
  have hy2:y=(.agg ((f i).map λz=>.lit (.int k z)),y.2):=by rw [<-hy1]
  rw [hy2] at hte;have hint:=ints_of_struct he hf hct hte;obtain ⟨_,_,hcc⟩:=World.cells?_some hce;rw [hct,hm] at hcc;rw [hcc j hj,hint,nV,bj (by rw [hf0 i hi];exact hj)];simp [List.getD,bj (show j<(f i).length by rw [hf0 i hi];exact hj)]
 obtain ⟨b,o,s⟩:=a;have hb:MemPlace.cell b o∈p:=by
  rw [hp2,hct,hm,hel,hlen];refine kL.2 (.inl ?_);simp only [MemPlace.row,du,jy];exact ⟨0,Nat.mul_pos (by omega) hm0,rfl⟩
 obtain rfl:s=none:=by
  have h00:=hcell 0 0 hn hm0;have:((Addr.add ⟨b,o,s⟩ (0*m)).add 0)=⟨b,o,s⟩:=by simp [Addr.add]
  rw [this] at h00;exact cell_spot h00
 obtain ⟨c,ty,hh⟩:=hp b o hb;refine ⟨b,o,c,ty,by rw [hcs,hlen,hcap],hh,λi j hi hj=>?_⟩;have:=hcell i j hi hj;rw [Addr.add_lit,Addr.add_lit,bz hh] at this;rw [<-this,gh]
theorem B6 {P:Program} {w:World} {fuel:Nat} {t:TypeId} {u:Array (String×TypeId)} {a:List Value} {b:String} {d:DataW Unit} {p:List MemPlace} (f:P.underlying t=some (.interface u))
  (h:DataW.trod (λ_=>()) P w 0 (λ_=>true) false fuel t a=some (.iface b d,p)):∃e c,a=[.iface e c]:=by
 cases fuel with
 | zero=>simp [DataW.trod] at h
 | succ n=>
  unfold DataW.trod at h;rw [f] at h;split at h<;>simp_all
end Go.Abs
namespace Go.Abs
open Go.Proofs Go.RowKit Go.Lib Go.Proofs.YthemneooekobkaaGreatDoor
def NC (i:Nat):List Int:=[pS.getD (i*2) 0,pS.getD (i*2+1) 0]
def NG (i:Nat):List Int:=[Dw.getD (i*2) 0,Dw.getD (i*2+1) 0]
theorem qd {c:Array Value} {o n:Nat} {l:List Int} {f:Nat->List Int} (k:l.length=n*2) (g:((List.range (n*2)).all λi=>l[i]?==some ((f (i / 2)).getD (i%2) 0))=true)
  (h:∀i j,i<n->j<2->c[o+(i*2+j)]?=some (.int .i64 ((f i).getD j 0))):Ew c o l:=by
 intro i z a;have hi:i<n*2:=by
  rcases aF i (n*2) with d | d
  ·exact d
  ·rw [fU (by omega)] at a;cases a
 have b:=bS.1 g i (by simpa using hi);simp only [bg] at b;rw [a,aq] at b;have e:=h (i / 2) (i%2) (by omega) (by omega);rw [show i / 2*2+i%2=i by omega] at e;rw [e,<-b]
def I4:List Int:=(List.range 256).map λc=>(Lib.firstT c:Int)
def HS (i:Nat):List Int:=[(Lib.accLo i:Int),(Lib.accHi i:Int)]
theorem MK:Rows.laid_unicode_utf8_first=.agg (I4.map λz=>.lit (.int .u8 z)):=by kernel_rfl
theorem GF:(Rows.laid_unicode_utf8_acceptRanges:DataW Unit)=DataW.agg ((List.range 16).map λi=>DataW.agg ((HS i).map λz=>DataW.lit (.int .u8 z))):=by kernel_rfl
theorem Fj {w:World} {l:List (String×DataW Unit)} (h:laidMet Tryz.prog l w)
  (m0:("circa/seasons.spans",Rows.laid_circa_seasons_spans)∈l) (m1:("circa/months.lengths",Rows.laid_circa_months_lengths)∈l)
  (m2:("circa/years.steps",Rows.laid_circa_years_steps)∈l) (m3:("strconv.ErrSyntax",Rows.laid_strconv_ErrSyntax)∈l)
  (m4:("unicode/utf8.first",Rows.laid_unicode_utf8_first)∈l) (m5:("unicode/utf8.acceptRanges",Rows.laid_unicode_utf8_acceptRanges)∈l):GL iM w:=by
 obtain ⟨c0,f0,p0,t0,d0,h0,_⟩:=pm h m0 (g:=5) (t:=312) (by kernel_rfl) (by kernel_rfl);obtain ⟨c1,f1,p1,t1,d1,h1,_⟩:=pm h m1 (g:=6) (t:=336) (by kernel_rfl) (by kernel_rfl);obtain ⟨c2,f2,p2,t2,d2,h2,q2⟩:=pm h m2 (g:=8) (t:=351) (by kernel_rfl) (by kernel_rfl);obtain ⟨c4,f4,p4,t4,d4,h4,_⟩:=pm h m3 (g:=0) (t:=153) (by kernel_rfl) (by kernel_rfl);obtain ⟨c5,f5,p5,t5,d5,h5,_⟩:=pm h m4 (g:=3) (t:=293) (by kernel_rfl) (by kernel_rfl);obtain ⟨c6,f6,p6,t6,d6,h6,_⟩:=pm h m5 (g:=4) (t:=296) (by kernel_rfl) (by kernel_rfl);rw [MK] at d5;rw [GF] at d6;have a5:=wz (l:=I4) (n:=256) (by kernel_rfl) Tryz.underlying293 Tryz.underlying5 (by kernel_rfl) d5;have a6:=zM (n:=16) (m:=2) HS (λ_ _=>rfl) Tryz.underlying296 Tryz.underlying295 (λi f hf=>by
  rcases i with _ | _ | i
  ·cases hf;exact ⟨by kernel_rfl,by kernel_rfl,by kernel_rfl⟩
  ·cases hf;exact ⟨by kernel_rfl,by kernel_rfl,by kernel_rfl⟩
  ·cases hf) (by kernel_rfl) rfl d6
 have a0:=zM (n:=21) (m:=2) NC (λ_ _=>rfl) Tryz.underlying312 Tryz.underlying311 (λi f hf=>by
  rcases i with _ | _ | i
  ·cases hf;exact ⟨by kernel_rfl,by kernel_rfl,by kernel_rfl⟩
  ·cases hf;exact ⟨by kernel_rfl,by kernel_rfl,by kernel_rfl⟩
  ·cases hf) (by kernel_rfl) rfl d0
 have a1:=wz (l:=E6) (n:=12) rfl Tryz.underlying336 Tryz.underlying3 (by kernel_rfl) d1
 obtain ⟨b,o,c,ty,e2,hb,a2⟩:=B9 (n:=3) (m:=2) NG (λ_ _=>rfl) (by omega) (by omega) Tryz.underlying351 Tryz.underlying352 (λi f hf=>by
  rcases i with _ | _ | i
  ·cases hf;exact ⟨by kernel_rfl,by kernel_rfl,by kernel_rfl⟩
  ·cases hf;exact ⟨by kernel_rfl,by kernel_rfl,by kernel_rfl⟩
  ·cases hf) (by kernel_rfl) rfl q2 d2
 obtain ⟨te,pe,e4⟩:=B6 Tryz.underlying153 d4;have g0:c0[0]?=some (.int .i64 3):=by rw [<-ow];exact a0 0 0 (by omega) (by omega)
 have g1:c1[0]?=some (.int .i64 31):=by rw [<-ow];exact a1 0 31 rfl
 have pos:∀{c:Array Value} {x:Value},c[0]?=some x->0<c.size:=λ{c} {x} h=>by
  rcases ym c.size with h' | h'
  ·rw [tQ (by omega)] at h;cases h
  ·exact h'
 have g2:c2[0]?=some (.slice (some ⟨b,o,none⟩) 3 3):=by rw [<-ow,e2];rfl
 have g4:c4[0]?=some (.iface te pe):=by rw [<-ow,e4];rfl
 have g5:∀i:Nat,i<256->c5[i]?=some (.int .u8 (Lib.firstT i)):=λi hi=>by
  rw [<-ow];exact a5 i _ (by simp [I4,hi])
 have g6:∀i:Nat,i<16->c6[i*2]?=some (.int .u8 (Lib.accLo i))/\c6[i*2+1]?=some (.int .u8 (Lib.accHi i)):=λi hi=>
  ⟨by rw [<-ow];exact a6 i 0 hi (by omega),by rw [<-ow];exact a6 i 1 hi (by omega)⟩
 refine ⟨_,⟨c0,c1,c2,c,t0,t1,t2,ty,b,o,⟨c4,t4,(te,(c5,t5),(c6,t6)),pe,rfl,g4,g5,g6⟩,?_,?_,g2,?_⟩,?_,λx _ b q hb=>by cases hb⟩
 ·exact qd (n:=21) (f:=NC) rfl (by decide) λi j hi hj=>by
   rw [cL,<-ow];exact a0 i j hi hj
 ·intro i z hz;rw [cL,<-ow];exact a1 i z hz
 ·exact qd (n:=3) (f:=NG) rfl (by decide) λi j hi hj=>a2 i j hi hj
 ·intro x hx;simp only [cq,nL,n8] at hx;rcases hx with rfl | rfl | rfl | rfl | rfl | rfl | rfl
  ·exact h0 (pos g0)
  ·exact h1 (pos g1)
  ·exact h2 (pos g2)
  ·exact hb
  ·exact h4 (pos g4)
  ·exact h5 (pos (g5 0 (by omega)))
  ·exact h6 (pos (g6 0 (by omega)).1)
end Go.Abs
