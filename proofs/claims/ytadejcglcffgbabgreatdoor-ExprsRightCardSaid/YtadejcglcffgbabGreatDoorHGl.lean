
/- From the row's laid variables to what the seat's Glob says of the package-level variables.
   Conditions: none. -/
import Derived.Test.YtadejcglcffgbabGreatDoorAbsX
import Derived.Test.YtadejcglcffgbabGreatDoorProg
import Derived.Test.YtadejcglcffgbabGreatDoorRows
import Derived.Lib.LaidU8
import Derived.Lay
import Derived.LaidMore
set_option linter.unusedVariables false
set_option linter.unusedSimpArgs false
set_option maxRecDepth 100000
set_option linter.defProp false
namespace Go.Abs
open Go.Proofs Go.RowKit Go.Lib
def A9{P:Program}{w:World}:∀{l:List (String×DataW Unit)} {c:List MemPlace},DataW.LaidVars P w l c->∀n d,(n,d)∈l->
  ∃g t b fuel p,P.globalNamed n=some g/\(P.globals[g]?).map (·.type)=some t/\w.var? P n=some b/\DataW.trod (λ_=>()) P w 0 (λ_=>true) false fuel t b.toList=some (d,p)/\
   (∀x∈MemPlace.row ⟨g,0,none⟩ b.size,x∈c)/\∀x∈p,x∈c
 | [],_,_,_,_,i=>by cases i
 | (C,d')::r,c,h,n,d,i=>by
  obtain⟨g,t,b,fuel,p,q,A,u,j,o,k,rfl⟩:=h;rcases bX.1 i with e | e
  ·cases e;exact⟨g,t,b,fuel,p,A,u,j,o,λx hx=>by simp[hx],λx hx=>by simp[hx]⟩
  ·obtain⟨B,m,f,a,y,k1,k2,k3,s,v,z⟩:=A9 k n d e;exact⟨B,m,f,a,y,k1,k2,k3,s,λx hx=>by simp[v x hx],λx hx=>by simp[z x hx]⟩
def rl{P:Program}{w:World}{l:List (String×DataW Unit)}(h:laidMet P l w){n:String}{d:DataW Unit}(o:(n,d)∈l){g:Nat}{t:TypeId}(s:P.globalNamed n=some g)(hy:(P.globals[g]?).map (·.type)=some t):
  ∃a fuel p e,DataW.trod (λ_=>()) P w 0 (λ_=>true) false fuel t a.toList=some (d,p)/\(0<a.size->w.heap[g]?=some (.cells a e (0,0)))/\
   ∀b off,MemPlace.cell b off∈p->∃c t,w.heap[b]?=some (.cells c t (0,0)):=by
 obtain⟨x,r,_,hp⟩:=h;obtain⟨v,u,a,fuel,p,k1,k2,k3,k,m,q⟩:=A9 r n d o;obtain rfl:=aY (s.symm.trans k1);obtain rfl:=aY (hy.symm.trans k2);obtain⟨e,f⟩:∃e,0<a.size->w.heap[g]?=some (.cells a e (0,0)):=by
  by_cases hs:0<a.size
  ·obtain⟨c,e,i⟩:=(hp g 0 (m _ (by simp only[MemPlace.row,da,ij];exact⟨0,hs,rfl⟩))).1;refine⟨e,λ_=>?_⟩;simp only[World.var?,k1,Option.bind_some,i,aq]at k3;rw[i,k3]
  ·exact⟨0,λh=>absurd h hs⟩
 exact⟨a,fuel,p,e,k,f,λb off j=>(hp b off (q _ j)).1⟩
def Ek{P:Program}{w:World}{fuel:Nat}{t e:TypeId}{n m:Nat}{c:Array Field}{k:IntKind}{u:List Value}{p:List MemPlace}(f:Nat->List Int)(b:∀i,i<n->(f i).length=m)
  (v:P.underlying t=some (.array n e)) (x:P.underlying e=some (.struct c)) (A:∀(i:Nat) (f:Field),c[i]?=some f->P.underlying f.type=some (.int k)/\f.offset=i/\P.cellsOf f.type=1) (a:P.cellsOf e=c.size) (y:c.size=m)
  (h:DataW.trod (λ_=>()) P w 0 (λ_=>true) false fuel t u=some (.agg ((List.range n).map λi=>.agg ((f i).map λz=>.lit (.int k z))),p)):
  ∀i j:Nat,i<n->j<m->u[i*m+j]?=some (Value.int k ((f i).getD j 0)):=by
 intro i j hi o;obtain⟨r,d,q,l,g⟩:=array_elem v h i hi;rw[om,List.getElem?_range hi]at l;simp only[ek,aq]at l;subst l;have:=ints_of_struct x A a g;have s:=fc (·[j]?) this;simp only[a,y,FZ,jK,o,bc,om]at s;rw[s,bj (by rw[b i hi];exact o)];simp[List.getD,bj (show j<(f i).length by rw[b i hi];exact o)]
def DV{P:Program}{w:World}{fuel:Nat}{t e:TypeId}{n:Nat}{k:IntKind}{m:List Value}{p:List MemPlace}{l:List Int}(v:l.length=n)
  (r:P.underlying t=some (.array n e)) (u:P.underlying e=some (.int k)) (f:P.cellsOf e=1)
  (h:DataW.trod (λ_=>()) P w 0 (λ_=>true) false fuel t m=some (.agg (l.map λz=>.lit (.int k z)),p)):
  ∀(i:Nat) (z:Int),l[i]?=some z->m[i]?=some (Value.int k z):=by
 intro i z a;have hi:i<n:=by
  rcases aI i n with j | j
  ·exact j
  ·rw[dX (by omega)]at a;cases a
 obtain⟨g,d,q,c,b⟩:=array_elem r h i hi;rw[om,a]at c;simp only[ek,aq]at c;subst c;obtain⟨o,hc,hx,_⟩:=BJ u b;have:o=z:=by
  have:=fc Prod.fst hx;simpa using this.symm
 subst this;have s:=fc (·[0]?) hc;simpa[f,FZ,jK]using s
def zF{P:Program}{w:World}{fuel:Nat}{t e:TypeId}{n m:Nat}{fs:Array Field}{k:IntKind}{cs:List Value}{p:List MemPlace}(f:Nat->List Int)(hf0:∀i,i<n->(f i).length=m)(hn:0<n)(hm0:0<m)
  (ht:P.underlying t=some (.slice e)) (he:P.underlying e=some (.struct fs)) (hf:∀(i:Nat) (f:Field),fs[i]?=some f->P.underlying f.type=some (.int k)/\f.offset=i/\P.cellsOf f.type=1) (hct:P.cellsOf e=fs.size) (hm:fs.size=m)
  (hp:∀b off,MemPlace.cell b off∈p->∃c t,w.heap[b]?=some (.cells c t (0,0)))
  (h:DataW.trod (λ_=>()) P w 0 (λ_=>true) false fuel t cs=some (.slice ((List.range n).map λi=>.agg ((f i).map λz=>.lit (.int k z))) [],p)):
  ∃b o c ty,cs=[.slice (some ⟨b,o,none⟩) n n]/\w.heap[b]?=some (.cells c ty (0,0))/\∀i j,i<n->j<m->c[o+(i*m+j)]?=some (.int k ((f i).getD j 0)):=by
 rcases DataW.trod_slice ht h with⟨_,hx⟩ | ⟨a,len,cap,el,rs,fu,rfl,hcs,hx,_,hlc,_,hel,helem,hsp,_⟩
 ·cases hx
 have e0:=fc Prod.fst hx;simp only[DataW.slice.injEq]at e0;obtain⟨eE,eR⟩:=e0;have hlen:len=n:=by
  have:=fc List.length eE;simp at this;omega
 have hcap:cap=n:=by
  have h1:=(hsp rfl).1;have h2:=fc List.length eR;simp at h2;omega
 have hp2:=fc Prod.snd hx;simp only at hp2;have hcell:∀i j,i<n->j<m->w.cell? ((a.add (i*m)).add j)=some (.int k ((f i).getD j 0)):=by
  intro i j hi hj;have h1:=helem i (by omega);obtain⟨y,hy⟩:∃y,el[i]?=some y:=⟨el[i]'(by omega),bj (by omega)⟩;rw[hy]at h1;obtain⟨ce,hce,hte⟩:=vD.1 h1;have hy1:y.1=.agg ((f i).map λz=>.lit (.int k z)):=by
   have:=fc (·[i]?) eE;simp only[om,hy,List.getElem?_range hi,ek,aq]at this;exact this.symm
  have hy2:y=(.agg ((f i).map λz=>.lit (.int k z)),y.2):=by rw[<-hy1]
  rw[hy2]at hte;have hint:=ints_of_struct he hf hct hte;obtain⟨_,_,hcc⟩:=zO hce;rw[hct,hm]at hcc;rw[hcc j hj,hint,om,bj (by rw[hf0 i hi];exact hj)];simp[List.getD,bj (show j<(f i).length by rw[hf0 i hi];exact hj)]
 obtain⟨b,o,s⟩:=a;have hb:MemPlace.cell b o∈p:=by
  rw[hp2,hct,hm,hel,hlen];refine jW.2 (.inl ?_);simp only[MemPlace.row,da,ij];exact⟨0,Nat.mul_pos (by omega) hm0,rfl⟩
 obtain rfl:s=none:=by
  have h00:=hcell 0 0 hn hm0;have:((Addr.add ⟨b,o,s⟩ (0*m)).add 0)=⟨b,o,s⟩:=by simp[Addr.add]
  rw[this]at h00;exact cell_spot h00
 obtain⟨c,ty,hh⟩:=hp b o hb;refine⟨b,o,c,ty,by rw[hcs,hlen,hcap],hh,λi j hi hj=>?_⟩;have:=hcell i j hi hj;rw[Addr.add_lit,Addr.add_lit,bB hh]at this;rw[<-this,gh]
def yX{P:Program}{w:World}{fuel:Nat}{t:TypeId}{u:Array (String×TypeId)}{a:List Value}{c:String}{d:DataW Unit}{p:List MemPlace}(f:P.underlying t=some (.interface u))
  (h:DataW.trod (λ_=>()) P w 0 (λ_=>true) false fuel t a=some (.iface c d,p)):∃e b,a=[.iface e b]:=by
 cases fuel with
 | zero=>simp[DataW.trod]at h
 | succ n=>
  unfold DataW.trod at h;rw[f]at h;split at h<;>simp_all
end Go.Abs
namespace Go.Abs
open Go.Proofs Go.RowKit Go.Lib Go.Proofs.YtadejcglcffgbabGreatDoor
def Jr(i:Nat):List Int:=[og.getD (i*2) 0,og.getD (i*2+1) 0]
def JH(i:Nat):List Int:=[BD.getD (i*2) 0,BD.getD (i*2+1) 0]
def n7{c:Array Value}{o n:Nat}{l:List Int}{f:Nat->List Int}(k:l.length=n*2)(g:((List.range (n*2)).all λi=>l[i]?==some ((f (i / 2)).getD (i%2) 0))=true)
  (h:∀i j,i<n->j<2->c[o+(i*2+j)]?=some (.int .i64 ((f i).getD j 0))):Bi c o l:=by
 intro i z a;have hi:i<n*2:=by
  rcases aI i (n*2)with d | d
  ·exact d
  ·rw[dX (by omega)]at a;cases a
 have b:=ch.1 g i (by simpa using hi);simp only[bI]at b;rw[a,aq]at b;have e:=h (i / 2) (i%2) (by omega) (by omega);rw[show i / 2*2+i%2=i by omega]at e;rw[e,<-b]
def DZ {w:World} {l:List (String×DataW Unit)} (h:laidMet Tryz.prog l w)
  (m0:("circa/seasons.spans",Rows.laid_circa_seasons_spans)∈l) (m1:("circa/months.lengths",Rows.laid_circa_months_lengths)∈l)
  (m2:("circa/years.steps",Rows.laid_circa_years_steps)∈l) (m3:("strconv.ErrSyntax",Rows.laid_strconv_ErrSyntax)∈l):GL ii w:=by
 obtain ⟨c0,f0,p0,t0,d0,h0,_⟩:=rl h m0 (g:=0) (t:=213) (by kernel_rfl) (by kernel_rfl);obtain ⟨c1,f1,p1,t1,d1,h1,_⟩:=rl h m1 (g:=1) (t:=220) (by kernel_rfl) (by kernel_rfl);obtain ⟨c2,f2,p2,t2,d2,h2,q2⟩:=rl h m2 (g:=4) (t:=253) (by kernel_rfl) (by kernel_rfl);obtain ⟨c4,f4,p4,t4,d4,h4,_⟩:=rl h m3 (g:=2) (t:=134) (by kernel_rfl) (by kernel_rfl);have a0:=Ek (n:=21) (m:=2) Jr (λ_ _=>rfl) Tryz.underlying213 Tryz.underlying212 (λi f hf=>by
  rcases i with _ | _ | i
  ·cases hf;exact ⟨by kernel_rfl,by kernel_rfl,by kernel_rfl⟩
  ·cases hf;exact ⟨by kernel_rfl,by kernel_rfl,by kernel_rfl⟩
  ·cases hf) (by kernel_rfl) rfl d0
 have a1:=DV (l:=Bm) (n:=12) rfl Tryz.underlying220 Tryz.underlying3 (by kernel_rfl) d1
 obtain ⟨b,o,c,ty,e2,hb,a2⟩:=zF (n:=3) (m:=2) JH (λ_ _=>rfl) (by omega) (by omega) Tryz.underlying253 Tryz.underlying254 (λi f hf=>by
  rcases i with _ | _ | i
  ·cases hf;exact ⟨by kernel_rfl,by kernel_rfl,by kernel_rfl⟩
  ·cases hf;exact ⟨by kernel_rfl,by kernel_rfl,by kernel_rfl⟩
  ·cases hf) (by kernel_rfl) rfl q2 d2
 obtain ⟨te,pe,e4⟩:=yX Tryz.underlying134 d4;have g0:c0[0]?=some (.int .i64 3):=by rw [<-oz];exact a0 0 0 (by omega) (by omega)
 have g1:c1[0]?=some (.int .i64 31):=by rw [<-oz];exact a1 0 31 rfl
 have pos:∀{c:Array Value} {x:Value},c[0]?=some x->0<c.size:=λ{c} {x} h=>by
  rcases wG c.size with h' | h'
  ·rw [uv (by omega)] at h;cases h
  ·exact h'
 have g2:c2[0]?=some (.slice (some ⟨b,o,none⟩) 3 3):=by rw [<-oz,e2];rfl
 have g4:c4[0]?=some (.iface te pe):=by rw [<-oz,e4];rfl
 refine ⟨_,⟨c0,c1,c2,c,t0,t1,t2,ty,b,o,⟨c4,t4,te,pe,rfl,g4⟩,?_,?_,g2,?_⟩,?_,λx _ b q hb=>by cases hb⟩
 ·exact n7 (n:=21) (f:=Jr) rfl (by decide) λi j hi hj=>by
   rw [bV,<-oz];exact a0 i j hi hj
 ·intro i z hz;rw [bV,<-oz];exact a1 i z hz
 ·exact n7 (n:=3) (f:=JH) rfl (by decide) λi j hi hj=>a2 i j hi hj
 ·intro x hx;simp only [bX,m6,oR] at hx;rcases hx with rfl | rfl | rfl | rfl | rfl
  ·exact h0 (pos g0)
  ·exact h1 (pos g1)
  ·exact h2 (pos g2)
  ·exact hb
  ·exact h4 (pos g4)
end Go.Abs
