
/- From the row's laid variables to what the seat's Glob says of the package-level variables.
   Conditions: none. -/
import Derived.Test.YtjkmipianfkncaaGreatDoorAbsX
import Derived.Test.YtjkmipianfkncaaGreatDoorProg
import Derived.Test.YtjkmipianfkncaaGreatDoorRows
import Derived.Lib.LaidU8
import Derived.Lay
import Derived.LaidMore
set_option linter.unusedVariables false
set_option linter.unusedSimpArgs false
set_option maxRecDepth 100000
set_option linter.defProp false
namespace Go.Abs
open Go.Proofs Go.RowKit Go.Lib
def Gx{P:Program}{w:World}:∀{l:List (String×DataW Unit)} {c:List MemPlace},DataW.LaidVars P w l c->∀n d,(n,d)∈l->
  ∃g t b fuel p,P.globalNamed n=some g/\(P.globals[g]?).map (·.type)=some t/\w.var? P n=some b/\DataW.trod (λ_=>()) P w 0 (λ_=>true) false fuel t b.toList=some (d,p)/\
   (∀x∈MemPlace.row ⟨g,0,none⟩ b.size,x∈c)/\∀x∈p,x∈c
 | [],_,_,_,_,i=>by cases i
 | (C,d')::r,c,h,n,d,i=>by
  obtain⟨g,t,b,fuel,p,q,v,y,o,k,m,rfl⟩:=h;rcases de.1 i with e | e
  ·cases e;exact⟨g,t,b,fuel,p,v,y,o,k,λx hx=>by simp[hx],λx hx=>by simp[hx]⟩
  ·obtain⟨z,j,f,a,s,k1,k2,u,k4,B,A⟩:=Gx m n d e;exact⟨z,j,f,a,s,k1,k2,u,k4,λx hx=>by simp[B x hx],λx hx=>by simp[A x hx]⟩
def rJ{P:Program}{w:World}{l:List (String×DataW Unit)}(h:laidMet P l w){n:String}{d:DataW Unit}(o:(n,d)∈l){g:Nat}{t:TypeId}(k:P.globalNamed n=some g)(hy:(P.globals[g]?).map (·.type)=some t):
  ∃a fuel p e,DataW.trod (λ_=>()) P w 0 (λ_=>true) false fuel t a.toList=some (d,p)/\(0<a.size->w.heap[g]?=some (.cells a e (0,0)))/\
   ∀b off,MemPlace.cell b off∈p->∃c t,w.heap[b]?=some (.cells c t (0,0)):=by
 obtain⟨v,q,_,hp⟩:=h;obtain⟨x,u,a,fuel,p,k1,k2,i,k4,s,m⟩:=Gx q n d o;obtain rfl:=aW (k.symm.trans k1);obtain rfl:=aW (hy.symm.trans k2);obtain⟨e,f⟩:∃e,0<a.size->w.heap[g]?=some (.cells a e (0,0)):=by
  by_cases hs:0<a.size
  ·obtain⟨c,e,j⟩:=(hp g 0 (s _ (by simp only[MemPlace.row,eU,kB];exact⟨0,hs,rfl⟩))).1;refine⟨e,λ_=>?_⟩;simp only[World.var?,k1,Option.bind_some,j,ar]at i;rw[j,i]
  ·exact⟨0,λh=>absurd h hs⟩
 exact⟨a,fuel,p,e,k4,f,λb off r=>(hp b off (m _ r)).1⟩
def DK{P:Program}{w:World}{fuel:Nat}{t e:TypeId}{n m:Nat}{c:Array Field}{k:IntKind}{r:List Value}{p:List MemPlace}(f:Nat->List Int)(b:∀i,i<n->(f i).length=m)
  (x:P.underlying t=some (.array n e)) (v:P.underlying e=some (.struct c)) (u:∀(i:Nat) (f:Field),c[i]?=some f->P.underlying f.type=some (.int k)/\f.offset=i/\P.cellsOf f.type=1) (a:P.cellsOf e=c.size) (y:c.size=m)
  (h:DataW.trod (λ_=>()) P w 0 (λ_=>true) false fuel t r=some (.agg ((List.range n).map λi=>.agg ((f i).map λz=>.lit (.int k z))),p)):
  ∀i j:Nat,i<n->j<m->r[i*m+j]?=some (Value.int k ((f i).getD j 0)):=by
 intro i j hi g;obtain⟨o,d,q,hd,l⟩:=array_elem x h i hi;rw[pR,List.getElem?_range hi]at hd;simp only[fi,ar]at hd;subst hd;have:=ints_of_struct v u a l;have s:=cb (·[j]?) this;simp only[a,y,Ku,nv,g,aG,pR]at s;rw[s,bf (by rw[b i hi];exact g)];simp[List.getD,bf (show j<(f i).length by rw[b i hi];exact g)]
def zC{P:Program}{w:World}{fuel:Nat}{t e:TypeId}{n:Nat}{k:IntKind}{g:List Value}{p:List MemPlace}{l:List Int}(u:l.length=n)
  (r:P.underlying t=some (.array n e)) (o:P.underlying e=some (.int k)) (a:P.cellsOf e=1)
  (h:DataW.trod (λ_=>()) P w 0 (λ_=>true) false fuel t g=some (.agg (l.map λz=>.lit (.int k z)),p)):
  ∀(i:Nat) (z:Int),l[i]?=some z->g[i]?=some (Value.int k z):=by
 intro i z b;have hi:i<n:=by
  rcases aF i n with j | j
  ·exact j
  ·rw[gU (by omega)]at b;cases b
 obtain⟨f,d,q,hd,c⟩:=array_elem r h i hi;rw[pR,b]at hd;simp only[fi,ar]at hd;subst hd;obtain⟨m,hc,hx,_⟩:=DataW.trod_int o c;have:m=z:=by
  have:=cb Prod.fst hx;simpa using this.symm
 subst this;have s:=cb (·[0]?) hc;simpa[a,Ku,nv]using s
def Fb{P:Program}{w:World}{fuel:Nat}{t e:TypeId}{n m:Nat}{fs:Array Field}{k:IntKind}{cs:List Value}{p:List MemPlace}(f:Nat->List Int)(hf0:∀i,i<n->(f i).length=m)(hn:0<n)(hm0:0<m)
  (ht:P.underlying t=some (.slice e)) (he:P.underlying e=some (.struct fs)) (hf:∀(i:Nat) (f:Field),fs[i]?=some f->P.underlying f.type=some (.int k)/\f.offset=i/\P.cellsOf f.type=1) (hct:P.cellsOf e=fs.size) (hm:fs.size=m)
  (hp:∀b off,MemPlace.cell b off∈p->∃c t,w.heap[b]?=some (.cells c t (0,0)))
  (h:DataW.trod (λ_=>()) P w 0 (λ_=>true) false fuel t cs=some (.slice ((List.range n).map λi=>.agg ((f i).map λz=>.lit (.int k z))) [],p)):
  ∃b o c ty,cs=[.slice (some ⟨b,o,none⟩) n n]/\w.heap[b]?=some (.cells c ty (0,0))/\∀i j,i<n->j<m->c[o+(i*m+j)]?=some (.int k ((f i).getD j 0)):=by
 rcases DataW.trod_slice ht h with⟨_,hx⟩ | ⟨a,len,cap,el,rs,fu,rfl,hcs,hx,_,hlc,_,hel,helem,hsp,_⟩
 ·cases hx
 have e0:=cb Prod.fst hx;simp only[DataW.slice.injEq]at e0;obtain⟨eE,eR⟩:=e0;have hlen:len=n:=by
  have:=cb List.length eE;simp at this;omega
 have hcap:cap=n:=by
  have h1:=(hsp rfl).1;have h2:=cb List.length eR;simp at h2;omega
 have hp2:=cb Prod.snd hx;simp only at hp2;have hcell:∀i j,i<n->j<m->w.cell? ((a.add (i*m)).add j)=some (.int k ((f i).getD j 0)):=by
  intro i j hi hj;have h1:=helem i (by omega);obtain⟨y,hy⟩:∃y,el[i]?=some y:=⟨el[i]'(by omega),bf (by omega)⟩;rw[hy]at h1;obtain⟨ce,hce,hte⟩:=Option.bind_eq_some_iff.1 h1;have hy1:y.1=.agg ((f i).map λz=>.lit (.int k z)):=by
   have:=cb (·[i]?) eE;simp only[pR,hy,List.getElem?_range hi,fi,ar]at this;exact this.symm
  have hy2:y=(.agg ((f i).map λz=>.lit (.int k z)),y.2):=by rw[<-hy1]
  rw[hy2]at hte;have hint:=ints_of_struct he hf hct hte;obtain⟨_,_,hcc⟩:=World.cells?_some hce;rw[hct,hm]at hcc;rw[hcc j hj,hint,pR,bf (by rw[hf0 i hi];exact hj)];simp[List.getD,bf (show j<(f i).length by rw[hf0 i hi];exact hj)]
 obtain⟨b,o,s⟩:=a;have hb:MemPlace.cell b o∈p:=by
  rw[hp2,hct,hm,hel,hlen];refine mF.2 (.inl ?_);simp only[MemPlace.row,eU,kB];exact⟨0,Nat.mul_pos (by omega) hm0,rfl⟩
 obtain rfl:s=none:=by
  have h00:=hcell 0 0 hn hm0;have:((Addr.add ⟨b,o,s⟩ (0*m)).add 0)=⟨b,o,s⟩:=by simp[Addr.add]
  rw[this]at h00;exact cell_spot h00
 obtain⟨c,ty,hh⟩:=hp b o hb;refine⟨b,o,c,ty,by rw[hcs,hlen,hcap],hh,λi j hi hj=>?_⟩;have:=hcell i j hi hj;rw[Addr.add_lit,Addr.add_lit,bB hh]at this;rw[<-this,gX]
def EF{P:Program}{w:World}{fuel:Nat}{t:TypeId}{u:Array (String×TypeId)}{a:List Value}{b:String}{d:DataW Unit}{p:List MemPlace}(c:P.underlying t=some (.interface u))
  (h:DataW.trod (λ_=>()) P w 0 (λ_=>true) false fuel t a=some (.iface b d,p)):∃e f,a=[.iface e f]:=by
 cases fuel with
 | zero=>simp[DataW.trod]at h
 | succ n=>
  unfold DataW.trod at h;rw[c]at h;split at h<;>simp_all
end Go.Abs
namespace Go.Abs
open Go.Proofs Go.RowKit Go.Lib Go.Proofs.YtjkmipianfkncaaGreatDoor
def Qa(i:Nat):List Int:=[rX.getD (i*2) 0,rX.getD (i*2+1) 0]
def QI(i:Nat):List Int:=[Gy.getD (i*2) 0,Gy.getD (i*2+1) 0]
def rQ{c:Array Value}{o n:Nat}{l:List Int}{f:Nat->List Int}(k:l.length=n*2)(g:((List.range (n*2)).all λi=>l[i]?==some ((f (i / 2)).getD (i%2) 0))=true)
  (h:∀i j,i<n->j<2->c[o+(i*2+j)]?=some (.int .i64 ((f i).getD j 0))):Hj c o l:=by
 intro i z a;have hi:i<n*2:=by
  rcases aF i (n*2)with e | e
  ·exact e
  ·rw[gU (by omega)]at a;cases a
 have b:=cE.1 g i (by simpa using hi);simp only[bu]at b;rw[a,ar]at b;have d:=h (i / 2) (i%2) (by omega) (by omega);rw[show i / 2*2+i%2=i by omega]at d;rw[d,<-b]
def JW:List Int:=(List.range 256).map λc=>(Lib.firstT c:Int)
def Lp(i:Nat):List Int:=[(Lib.accLo i:Int),(Lib.accHi i:Int)]
def OA:Rows.laid_unicode_utf8_first=.agg (JW.map λz=>.lit (.int .u8 z)):=by kernel_rfl
def L6:(Rows.laid_unicode_utf8_acceptRanges:DataW Unit)=DataW.agg ((List.range 16).map λi=>DataW.agg ((Lp i).map λz=>DataW.lit (.int .u8 z))):=by kernel_rfl
def IY {w:World} {l:List (String×DataW Unit)} (h:laidMet Tryz.prog l w)
  (m0:("circa/seasons.spans",Rows.laid_circa_seasons_spans)∈l) (m1:("circa/months.lengths",Rows.laid_circa_months_lengths)∈l)
  (m2:("circa/years.steps",Rows.laid_circa_years_steps)∈l) (m3:("strconv.ErrSyntax",Rows.laid_strconv_ErrSyntax)∈l)
  (m4:("unicode/utf8.first",Rows.laid_unicode_utf8_first)∈l) (m5:("unicode/utf8.acceptRanges",Rows.laid_unicode_utf8_acceptRanges)∈l):GL jG w:=by
 obtain ⟨c0,f0,p0,t0,d0,h0,_⟩:=rJ h m0 (g:=1) (t:=258) (by kernel_rfl) (by kernel_rfl);obtain ⟨c1,f1,p1,t1,d1,h1,_⟩:=rJ h m1 (g:=2) (t:=265) (by kernel_rfl) (by kernel_rfl);obtain ⟨c2,f2,p2,t2,d2,h2,q2⟩:=rJ h m2 (g:=7) (t:=295) (by kernel_rfl) (by kernel_rfl);obtain ⟨c4,f4,p4,t4,d4,h4,_⟩:=rJ h m3 (g:=3) (t:=169) (by kernel_rfl) (by kernel_rfl);obtain ⟨c5,f5,p5,t5,d5,h5,_⟩:=rJ h m4 (g:=5) (t:=277) (by kernel_rfl) (by kernel_rfl);obtain ⟨c6,f6,p6,t6,d6,h6,_⟩:=rJ h m5 (g:=6) (t:=280) (by kernel_rfl) (by kernel_rfl);rw [OA] at d5;rw [L6] at d6;have a5:=zC (l:=JW) (n:=256) (by kernel_rfl) Tryz.underlying277 Tryz.underlying5 (by kernel_rfl) d5;have a6:=DK (n:=16) (m:=2) Lp (λ_ _=>rfl) Tryz.underlying280 Tryz.underlying279 (λi f hf=>by
  rcases i with _ | _ | i
  ·cases hf;exact ⟨by kernel_rfl,by kernel_rfl,by kernel_rfl⟩
  ·cases hf;exact ⟨by kernel_rfl,by kernel_rfl,by kernel_rfl⟩
  ·cases hf) (by kernel_rfl) rfl d6
 have a0:=DK (n:=21) (m:=2) Qa (λ_ _=>rfl) Tryz.underlying258 Tryz.underlying257 (λi f hf=>by
  rcases i with _ | _ | i
  ·cases hf;exact ⟨by kernel_rfl,by kernel_rfl,by kernel_rfl⟩
  ·cases hf;exact ⟨by kernel_rfl,by kernel_rfl,by kernel_rfl⟩
  ·cases hf) (by kernel_rfl) rfl d0
 have a1:=zC (l:=GM) (n:=12) rfl Tryz.underlying265 Tryz.underlying3 (by kernel_rfl) d1
 obtain ⟨b,o,c,ty,e2,hb,a2⟩:=Fb (n:=3) (m:=2) QI (λ_ _=>rfl) (by omega) (by omega) Tryz.underlying295 Tryz.underlying296 (λi f hf=>by
  rcases i with _ | _ | i
  ·cases hf;exact ⟨by kernel_rfl,by kernel_rfl,by kernel_rfl⟩
  ·cases hf;exact ⟨by kernel_rfl,by kernel_rfl,by kernel_rfl⟩
  ·cases hf) (by kernel_rfl) rfl q2 d2
 obtain ⟨te,pe,e4⟩:=EF Tryz.underlying169 d4;have g0:c0[0]?=some (.int .i64 3):=by rw [<-qs];exact a0 0 0 (by omega) (by omega)
 have g1:c1[0]?=some (.int .i64 31):=by rw [<-qs];exact a1 0 31 rfl
 have pos:∀{c:Array Value} {x:Value},c[0]?=some x->0<c.size:=λ{c} {x} h=>by
  rcases Ac c.size with h' | h'
  ·rw [xO (by omega)] at h;cases h
  ·exact h'
 have g2:c2[0]?=some (.slice (some ⟨b,o,none⟩) 3 3):=by rw [<-qs,e2];rfl
 have g4:c4[0]?=some (.iface te pe):=by rw [<-qs,e4];rfl
 have g5:∀i:Nat,i<256->c5[i]?=some (.int .u8 (Lib.firstT i)):=λi hi=>by
  rw [<-qs];exact a5 i _ (by simp [JW,hi])
 have g6:∀i:Nat,i<16->c6[i*2]?=some (.int .u8 (Lib.accLo i))/\c6[i*2+1]?=some (.int .u8 (Lib.accHi i)):=λi hi=>
  ⟨by rw [<-qs];exact a6 i 0 hi (by omega),by rw [<-qs];exact a6 i 1 hi (by omega)⟩
 refine ⟨_,⟨c0,c1,c2,c,t0,t1,t2,ty,b,o,⟨c4,t4,(te,(c5,t5),(c6,t6)),pe,rfl,g4,g5,g6⟩,?_,?_,g2,?_⟩,?_,λx _ b q hb=>by cases hb⟩
 ·exact rQ (n:=21) (f:=Qa) rfl (by decide) λi j hi hj=>by
   rw [cU,<-qs];exact a0 i j hi hj
 ·intro i z hz;rw [cU,<-qs];exact a1 i z hz
 ·exact rQ (n:=3) (f:=QI) rfl (by decide) λi j hi hj=>a2 i j hi hj
 ·intro x hx;simp only [de,sQ,us] at hx;rcases hx with rfl | rfl | rfl | rfl | rfl | rfl | rfl
  ·exact h0 (pos g0)
  ·exact h1 (pos g1)
  ·exact h2 (pos g2)
  ·exact hb
  ·exact h4 (pos g4)
  ·exact h5 (pos (g5 0 (by omega)))
  ·exact h6 (pos (g6 0 (by omega)).1)
end Go.Abs
