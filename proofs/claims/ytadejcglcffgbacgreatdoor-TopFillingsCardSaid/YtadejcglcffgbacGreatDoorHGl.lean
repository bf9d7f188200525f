
/- From the row's laid variables to what the seat's Glob says of the package-level variables.
   Conditions: none. -/
import Derived.Test.YtadejcglcffgbacGreatDoorAbsX
import Derived.Test.YtadejcglcffgbacGreatDoorProg
import Derived.Test.YtadejcglcffgbacGreatDoorRows
import Derived.Lib.LaidU8
import Derived.Lib.LaidTab
import Derived.Lay
import Derived.LaidMore
set_option linter.unusedVariables false
set_option linter.unusedSimpArgs false
set_option maxRecDepth 100000
set_option linter.defProp false
namespace Go.Abs
open Go.Proofs Go.RowKit Go.Lib
def AN{P:Program}{w:World}:∀{l:List (String×DataW Unit)} {f:List MemPlace},DataW.LaidVars P w l f->∀n d,(n,d)∈l->
  ∃g t c fuel p,P.globalNamed n=some g/\(P.globals[g]?).map (·.type)=some t/\w.var? P n=some c/\DataW.trod (λ_=>()) P w 0 (λ_=>true) false fuel t c.toList=some (d,p)/\
   (∀x∈MemPlace.row ⟨g,0,none⟩ c.size,x∈f)/\∀x∈p,x∈f
 | [],_,_,_,_,hm=>by cases hm
 | (B,d')::r,f,h,n,d,hm=>by
  obtain⟨g,t,c,fuel,p,q,h1,h2,A,z,o,rfl⟩:=h;rcases bv.1 hm with e | e
  ·cases e;exact⟨g,t,c,fuel,p,h1,h2,A,z,λx a=>by simp[a],λx a=>by simp[a]⟩
  ·obtain⟨k,s,i,b,u,k1,k2,y,v,m,j⟩:=AN o n d e;exact⟨k,s,i,b,u,k1,k2,y,v,λx a=>by simp[m x a],λx a=>by simp[j x a]⟩
def lH{P:Program}{w:World}{l:List (String×DataW Unit)}(h:laidMet P l w){n:String}{d:DataW Unit}(hm:(n,d)∈l){g:Nat}{t:TypeId}(v:P.globalNamed n=some g)(s:(P.globals[g]?).map (·.type)=some t):
  ∃a fuel p e,DataW.trod (λ_=>()) P w 0 (λ_=>true) false fuel t a.toList=some (d,p)/\(0<a.size->w.heap[g]?=some (.cells a e (0,0)))/\
   ∀b off,MemPlace.cell b off∈p->∃c t,w.heap[b]?=some (.cells c t (0,0)):=by
 obtain⟨z,q,_,i⟩:=h;obtain⟨y,A,a,fuel,p,k1,k2,m,x,r,o⟩:=AN q n d hm;obtain rfl:=aM (v.symm.trans k1);obtain rfl:=aM (s.symm.trans k2);obtain⟨e,f⟩:∃e,0<a.size->w.heap[g]?=some (.cells a e (0,0)):=by
  by_cases j:0<a.size
  ·obtain⟨c,e,k⟩:=(i g 0 (r _ (by simp only[MemPlace.row,ch,iN];exact⟨0,j,rfl⟩))).1;refine⟨e,λ_=>?_⟩;simp only[World.var?,k1,Option.bind_some,k,af]at m;rw[k,m]
  ·exact⟨0,λh=>absurd h j⟩
 exact⟨a,fuel,p,e,x,f,λb off u=>(i b off (o _ u)).1⟩
def xF{P:Program}{w:World}{fuel:Nat}{t e:TypeId}{n m:Nat}{c:Array Field}{k:IntKind}{s:List Value}{p:List MemPlace}(f:Nat->List Int)(b:∀i,i<n->(f i).length=m)
  (x:P.underlying t=some (.array n e)) (u:P.underlying e=some (.struct c)) (v:∀(i:Nat) (f:Field),c[i]?=some f->P.underlying f.type=some (.int k)/\f.offset=i/\P.cellsOf f.type=1) (a:P.cellsOf e=c.size) (hm:c.size=m)
  (h:DataW.trod (λ_=>()) P w 0 (λ_=>true) false fuel t s=some (.agg ((List.range n).map λi=>.agg ((f i).map λz=>.lit (.int k z))),p)):
  ∀i j:Nat,i<n->j<m->s[i*m+j]?=some (Value.int k ((f i).getD j 0)):=by
 intro i j hi l;obtain⟨r,d,q,o,g⟩:=array_elem x h i hi;rw[mL,List.getElem?_range hi]at o;simp only[dB,af]at o;subst o;have:=ints_of_struct u v a g;have h2:=eK (·[j]?) this;simp only[a,hm,E5,jx,l,be,mL]at h2;rw[h2,bN (by rw[b i hi];exact l)];simp[List.getD,bN (show j<(f i).length by rw[b i hi];exact l)]
def uD{P:Program}{w:World}{fuel:Nat}{t e:TypeId}{n:Nat}{k:IntKind}{m:List Value}{p:List MemPlace}{l:List Int}(v:l.length=n)
  (u:P.underlying t=some (.array n e)) (o:P.underlying e=some (.int k)) (c:P.cellsOf e=1)
  (h:DataW.trod (λ_=>()) P w 0 (λ_=>true) false fuel t m=some (.agg (l.map λz=>.lit (.int k z)),p)):
  ∀(i:Nat) (z:Int),l[i]?=some z->m[i]?=some (Value.int k z):=by
 intro i z a;have hi:i<n:=by
  rcases aA i n with j | j
  ·exact j
  ·rw[ec (by omega)]at a;cases a
 obtain⟨g,d,q,f,b⟩:=array_elem u h i hi;rw[mL,a]at f;simp only[dB,af]at f;subst f;obtain⟨s,hc,r,_⟩:=DataW.trod_int o b;have:s=z:=by
  have:=eK Prod.fst r;simpa using this.symm
 subst this;have h2:=eK (·[0]?) hc;simpa[c,E5,jx]using h2
def yQ{P:Program}{w:World}{fuel:Nat}{t e:TypeId}{n m:Nat}{fs:Array Field}{k:IntKind}{cs:List Value}{p:List MemPlace}(f:Nat->List Int)(hf0:∀i,i<n->(f i).length=m)(hn:0<n)(hm0:0<m)
  (ht:P.underlying t=some (.slice e)) (he:P.underlying e=some (.struct fs)) (hf:∀(i:Nat) (f:Field),fs[i]?=some f->P.underlying f.type=some (.int k)/\f.offset=i/\P.cellsOf f.type=1) (hct:P.cellsOf e=fs.size) (hm:fs.size=m)
  (hp:∀b off,MemPlace.cell b off∈p->∃c t,w.heap[b]?=some (.cells c t (0,0)))
  (h:DataW.trod (λ_=>()) P w 0 (λ_=>true) false fuel t cs=some (.slice ((List.range n).map λi=>.agg ((f i).map λz=>.lit (.int k z))) [],p)):
  ∃b o c ty,cs=[.slice (some ⟨b,o,none⟩) n n]/\w.heap[b]?=some (.cells c ty (0,0))/\∀i j,i<n->j<m->c[o+(i*m+j)]?=some (.int k ((f i).getD j 0)):=by
 rcases DataW.trod_slice ht h with⟨_,hx⟩ | ⟨a,len,cap,el,rs,fu,rfl,hcs,hx,_,hlc,_,hel,helem,hsp,_⟩
 ·cases hx
 have e0:=eK Prod.fst hx;simp only[DataW.slice.injEq]at e0;obtain⟨eE,eR⟩:=e0;have hlen:len=n:=by
  have:=eK List.length eE;simp at this;omega
 have hcap:cap=n:=by
  have h1:=(hsp rfl).1;have h2:=eK List.length eR;simp at h2;omega
 have hp2:=eK Prod.snd hx;simp only at hp2;have hcell:∀i j,i<n->j<m->w.cell? ((a.add (i*m)).add j)=some (.int k ((f i).getD j 0)):=by
  intro i j hi hj;have h1:=helem i (by omega);obtain⟨y,hy⟩:∃y,el[i]?=some y:=⟨el[i]'(by omega),bN (by omega)⟩;rw[hy]at h1;obtain⟨ce,hce,hte⟩:=Do.1 h1;have hy1:y.1=.agg ((f i).map λz=>.lit (.int k z)):=by
   have:=eK (·[i]?) eE;simp only[mL,hy,List.getElem?_range hi,dB,af]at this;exact this.symm
  have hy2:y=(.agg ((f i).map λz=>.lit (.int k z)),y.2):=by rw[<-hy1]
  rw[hy2]at hte;have hint:=ints_of_struct he hf hct hte;obtain⟨_,_,hcc⟩:=World.cells?_some hce;rw[hct,hm]at hcc;rw[hcc j hj,hint,mL,bN (by rw[hf0 i hi];exact hj)];simp[List.getD,bN (show j<(f i).length by rw[hf0 i hi];exact hj)]
 obtain⟨b,o,s⟩:=a;have hb:MemPlace.cell b o∈p:=by
  rw[hp2,hct,hm,hel,hlen];refine kn.2 (.inl ?_);simp only[MemPlace.row,ch,iN];exact⟨0,Nat.mul_pos (by omega) hm0,rfl⟩
 obtain rfl:s=none:=by
  have h00:=hcell 0 0 hn hm0;have:((Addr.add ⟨b,o,s⟩ (0*m)).add 0)=⟨b,o,s⟩:=by simp[Addr.add]
  rw[this]at h00;exact cell_spot h00
 obtain⟨c,ty,hh⟩:=hp b o hb;refine⟨b,o,c,ty,by rw[hcs,hlen,hcap],hh,λi j hi hj=>?_⟩;have:=hcell i j hi hj;rw[Addr.add_lit,Addr.add_lit,aN hh]at this;rw[<-this,gL]
def zu{P:Program}{w:World}{fuel:Nat}{t:TypeId}{u:Array (String×TypeId)}{a:List Value}{b:String}{d:DataW Unit}{p:List MemPlace}(e:P.underlying t=some (.interface u))
  (h:DataW.trod (λ_=>()) P w 0 (λ_=>true) false fuel t a=some (.iface b d,p)):∃c f,a=[.iface c f]:=by
 cases fuel with
 | zero=>simp[DataW.trod]at h
 | succ n=>
  unfold DataW.trod at h;rw[e]at h;split at h<;>simp_all
end Go.Abs
namespace Go.Abs
open Go.Proofs Go.RowKit Go.Lib Go.Proofs.YtadejcglcffgbacGreatDoor
def IR(i:Nat):List Int:=[nG.getD (i*2) 0,nG.getD (i*2+1) 0]
def Ix(i:Nat):List Int:=[Am.getD (i*2) 0,Am.getD (i*2+1) 0]
def nR{c:Array Value}{o n:Nat}{l:List Int}{f:Nat->List Int}(e:l.length=n*2)(d:((List.range (n*2)).all λi=>l[i]?==some ((f (i / 2)).getD (i%2) 0))=true)
  (h:∀i j,i<n->j<2->c[o+(i*2+j)]?=some (.int .i64 ((f i).getD j 0))):BA c o l:=by
 intro i z a;have hi:i<n*2:=by
  rcases aA i (n*2)with b | b
  ·exact b
  ·rw[ec (by omega)]at a;cases a
 have h1:=ct.1 d i (by simpa using hi);simp only[bI]at h1;rw[a,af]at h1;have h2:=h (i / 2) (i%2) (by omega) (by omega);rw[show i / 2*2+i%2=i by omega]at h2;rw[h2,<-h1]
def Db:List Int:=(List.range 256).map λc=>(Lib.firstT c:Int)
def Fo(i:Nat):List Int:=[(Lib.accLo i:Int),(Lib.accHi i:Int)]
def Iq:Rows.laid_unicode_utf8_first=.agg (Db.map λz=>.lit (.int .u8 z)):=by kernel_rfl
def Dk:(Rows.laid_unicode_utf8_acceptRanges:DataW Unit)=DataW.agg ((List.range 16).map λi=>DataW.agg ((Fo i).map λz=>DataW.lit (.int .u8 z))):=by kernel_rfl
def LU:(Rows.laid_internal_strconv_uint64pow10:DataW Unit)=tabData .u64 Lib.pow10Tab:=by kernel_rfl
def CU {w:World} {l:List (String×DataW Unit)} (h:laidMet Tryz.prog l w)
  (m0:("circa/seasons.spans",Rows.laid_circa_seasons_spans)∈l) (m1:("circa/months.lengths",Rows.laid_circa_months_lengths)∈l)
  (m2:("circa/years.steps",Rows.laid_circa_years_steps)∈l) (m3:("strconv.ErrSyntax",Rows.laid_strconv_ErrSyntax)∈l)
  (m4:("unicode/utf8.first",Rows.laid_unicode_utf8_first)∈l) (m5:("unicode/utf8.acceptRanges",Rows.laid_unicode_utf8_acceptRanges)∈l) (m6:("internal/strconv.uint64pow10",Rows.laid_internal_strconv_uint64pow10)∈l):GL dY w:=by
 obtain ⟨c0,f0,p0,t0,d0,h0,_⟩:=lH h m0 (g:=4) (t:=274) (by kernel_rfl) (by kernel_rfl);obtain ⟨c1,f1,p1,t1,d1,h1,_⟩:=lH h m1 (g:=0) (t:=182) (by kernel_rfl) (by kernel_rfl);obtain ⟨c2,f2,p2,t2,d2,h2,q2⟩:=lH h m2 (g:=5) (t:=276) (by kernel_rfl) (by kernel_rfl);obtain ⟨c4,f4,p4,t4,d4,h4,_⟩:=lH h m3 (g:=2) (t:=135) (by kernel_rfl) (by kernel_rfl);obtain ⟨c5,f5,p5,t5,d5,h5,_⟩:=lH h m4 (g:=9) (t:=316) (by kernel_rfl) (by kernel_rfl);obtain ⟨c6,f6,p6,t6,d6,h6,_⟩:=lH h m5 (g:=10) (t:=319) (by kernel_rfl) (by kernel_rfl);obtain ⟨c7,f7,p7,t7,d7,h7,_⟩:=lH h m6 (g:=6) (t:=279) (by kernel_rfl) (by kernel_rfl);rw [LU] at d7;have z7:c7=(Lib.pow10Tab.map λz=>Value.int .u64 z).toArray:=gQ (by
  have:=cells_of_tab (n:=20) Tryz.underlying279 Tryz.underlying225 (by kernel_rfl) (by kernel_rfl) d7;simpa using this)
 rw [Iq] at d5;rw [Dk] at d6;have a5:=uD (l:=Db) (n:=256) (by kernel_rfl) Tryz.underlying316 Tryz.underlying5 (by kernel_rfl) d5;have a6:=xF (n:=16) (m:=2) Fo (λ_ _=>rfl) Tryz.underlying319 Tryz.underlying318 (λi f hf=>by
  rcases i with _ | _ | i
  ·cases hf;exact ⟨by kernel_rfl,by kernel_rfl,by kernel_rfl⟩
  ·cases hf;exact ⟨by kernel_rfl,by kernel_rfl,by kernel_rfl⟩
  ·cases hf) (by kernel_rfl) rfl d6
 have a0:=xF (n:=21) (m:=2) IR (λ_ _=>rfl) Tryz.underlying274 Tryz.underlying273 (λi f hf=>by
  rcases i with _ | _ | i
  ·cases hf;exact ⟨by kernel_rfl,by kernel_rfl,by kernel_rfl⟩
  ·cases hf;exact ⟨by kernel_rfl,by kernel_rfl,by kernel_rfl⟩
  ·cases hf) (by kernel_rfl) rfl d0
 have a1:=uD (l:=AV) (n:=12) rfl Tryz.underlying182 Tryz.underlying3 (by kernel_rfl) d1
 obtain ⟨b,o,c,ty,e2,hb,a2⟩:=yQ (n:=3) (m:=2) Ix (λ_ _=>rfl) (by omega) (by omega) Tryz.underlying276 Tryz.underlying277 (λi f hf=>by
  rcases i with _ | _ | i
  ·cases hf;exact ⟨by kernel_rfl,by kernel_rfl,by kernel_rfl⟩
  ·cases hf;exact ⟨by kernel_rfl,by kernel_rfl,by kernel_rfl⟩
  ·cases hf) (by kernel_rfl) rfl q2 d2
 obtain ⟨te,pe,e4⟩:=zu Tryz.underlying135 d4;have g0:c0[0]?=some (.int .i64 3):=by rw [<-mh];exact a0 0 0 (by omega) (by omega)
 have g1:c1[0]?=some (.int .i64 31):=by rw [<-mh];exact a1 0 31 rfl
 have pos:∀{c:Array Value} {x:Value},c[0]?=some x->0<c.size:=λ{c} {x} h=>by
  rcases vv c.size with h' | h'
  ·rw [tj (by omega)] at h;cases h
  ·exact h'
 have g2:c2[0]?=some (.slice (some ⟨b,o,none⟩) 3 3):=by rw [<-mh,e2];rfl
 have g4:c4[0]?=some (.iface te pe):=by rw [<-mh,e4];rfl
 have g5:∀i:Nat,i<256->c5[i]?=some (.int .u8 (Lib.firstT i)):=λi hi=>by
  rw [<-mh];exact a5 i _ (by simp [Db,hi])
 have g6:∀i:Nat,i<16->c6[i*2]?=some (.int .u8 (Lib.accLo i))/\c6[i*2+1]?=some (.int .u8 (Lib.accHi i)):=λi hi=>
  ⟨by rw [<-mh];exact a6 i 0 hi (by omega),by rw [<-mh];exact a6 i 1 hi (by omega)⟩
 refine ⟨_,⟨c0,c1,c2,c,t0,t1,t2,ty,b,o,⟨c4,t4,(te,(c5,t5),(c6,t6,(⟨c7,z7⟩,t7))),pe,rfl,g4,g5,g6⟩,?_,?_,g2,?_⟩,?_,λx _ b q hb=>by cases hb⟩
 ·exact nR (n:=21) (f:=IR) rfl (by decide) λi j hi hj=>by
   rw [ci,<-mh];exact a0 i j hi hj
 ·intro i z hz;rw [ci,<-mh];exact a1 i z hz
 ·exact nR (n:=3) (f:=Ix) rfl (by decide) λi j hi hj=>a2 i j hi hj
 ·intro x hx;simp only [bv,n8,qs] at hx;rcases hx with rfl | rfl | rfl | rfl | rfl | rfl | rfl | rfl
  ·exact h0 (pos g0)
  ·exact h1 (pos g1)
  ·exact h2 (pos g2)
  ·exact hb
  ·exact h4 (pos g4)
  ·exact h5 (pos (g5 0 (by omega)))
  ·exact h6 (pos (g6 0 (by omega)).1)
  ·exact h7 (by rw [z7];decide)
end Go.Abs
