
/- From the row's laid variables to what the seat's Glob says of the package-level variables.
   Conditions: none. -/
import Derived.Test.YtibehcmomiplnaaGreatDoorAbsX
import Derived.Test.YtibehcmomiplnaaGreatDoorProg
import Derived.Test.YtibehcmomiplnaaGreatDoorRows
import Derived.Lib.LaidU8
import Derived.Lay
import Derived.LaidMore
set_option linter.unusedVariables false
set_option linter.unusedSimpArgs false
set_option maxRecDepth 100000
set_option linter.defProp false
namespace Go.Abs
open Go.Proofs Go.RowKit Go.Lib
def IA{P:Program}{w:World}:∀{l:List (String×DataW Unit)} {c:List MemPlace},DataW.LaidVars P w l c->∀n d,(n,d)∈l->
  ∃g t b fuel p,P.globalNamed n=some g/\(P.globals[g]?).map (·.type)=some t/\w.var? P n=some b/\DataW.trod (λ_=>()) P w 0 (λ_=>true) false fuel t b.toList=some (d,p)/\
   (∀x∈MemPlace.row ⟨g,0,none⟩ b.size,x∈c)/\∀x∈p,x∈c
 | [],_,_,_,_,f=>by cases f
 | (B,d')::r,c,h,n,d,f=>by
  obtain⟨g,t,b,fuel,p,q,m,z,o,A,y,rfl⟩:=h;rcases cN.1 f with e | e
  ·cases e;exact⟨g,t,b,fuel,p,m,z,o,A,λx hx=>by simp[hx],λx hx=>by simp[hx]⟩
  ·obtain⟨u,v,i,a,s,k1,k2,k3,k4,j,k⟩:=IA y n d e;exact⟨u,v,i,a,s,k1,k2,k3,k4,λx hx=>by simp[j x hx],λx hx=>by simp[k x hx]⟩
def sG{P:Program}{w:World}{l:List (String×DataW Unit)}(h:laidMet P l w){n:String}{d:DataW Unit}(r:(n,d)∈l){g:Nat}{t:TypeId}(o:P.globalNamed n=some g)(hy:(P.globals[g]?).map (·.type)=some t):
  ∃a fuel p e,DataW.trod (λ_=>()) P w 0 (λ_=>true) false fuel t a.toList=some (d,p)/\(0<a.size->w.heap[g]?=some (.cells a e (0,0)))/\
   ∀b off,MemPlace.cell b off∈p->∃c t,w.heap[b]?=some (.cells c t (0,0)):=by
 obtain⟨s,q,_,hp⟩:=h;obtain⟨u,v,a,fuel,p,k1,k2,k3,k4,k,j⟩:=IA q n d r;obtain rfl:=bp (o.symm.trans k1);obtain rfl:=bp (hy.symm.trans k2);obtain⟨e,f⟩:∃e,0<a.size->w.heap[g]?=some (.cells a e (0,0)):=by
  by_cases hs:0<a.size
  ·obtain⟨c,e,i⟩:=(hp g 0 (k _ (by simp only[MemPlace.row,eD,gS];exact⟨0,hs,rfl⟩))).1;refine⟨e,λ_=>?_⟩;simp only[World.var?,k1,Option.bind_some,i,ar]at k3;rw[i,k3]
  ·exact⟨0,λh=>absurd h hs⟩
 exact⟨a,fuel,p,e,k4,f,λb off m=>(hp b off (j _ m)).1⟩
def FG{P:Program}{w:World}{fuel:Nat}{t e:TypeId}{n m:Nat}{c:Array Field}{k:IntKind}{s:List Value}{p:List MemPlace}(f:Nat->List Int)(a:∀i,i<n->(f i).length=m)
  (A:P.underlying t=some (.array n e)) (v:P.underlying e=some (.struct c)) (x:∀(i:Nat) (f:Field),c[i]?=some f->P.underlying f.type=some (.int k)/\f.offset=i/\P.cellsOf f.type=1) (b:P.cellsOf e=c.size) (y:c.size=m)
  (h:DataW.trod (λ_=>()) P w 0 (λ_=>true) false fuel t s=some (.agg ((List.range n).map λi=>.agg ((f i).map λz=>.lit (.int k z))),p)):
  ∀i j:Nat,i<n->j<m->s[i*m+j]?=some (Value.int k ((f i).getD j 0)):=by
 intro i j hi l;obtain⟨r,d,q,o,g⟩:=array_elem A h i hi;rw[nF,List.getElem?_range hi]at o;simp only[fm,ar]at o;subst o;have:=ints_of_struct v x b g;have u:=cT (·[j]?) this;simp only[b,y,MZ,lW,l,aQ,nF]at u;rw[u,bq (by rw[a i hi];exact l)];simp[List.getD,bq (show j<(f i).length by rw[a i hi];exact l)]
def zK{P:Program}{w:World}{fuel:Nat}{t e:TypeId}{n:Nat}{k:IntKind}{j:List Value}{p:List MemPlace}{l:List Int}(v:l.length=n)
  (r:P.underlying t=some (.array n e)) (o:P.underlying e=some (.int k)) (c:P.cellsOf e=1)
  (h:DataW.trod (λ_=>()) P w 0 (λ_=>true) false fuel t j=some (.agg (l.map λz=>.lit (.int k z)),p)):
  ∀(i:Nat) (z:Int),l[i]?=some z->j[i]?=some (Value.int k z):=by
 intro i z b;have hi:i<n:=by
  rcases aN i n with m | m
  ·exact m
  ·rw[gh (by omega)]at b;cases b
 obtain⟨g,d,q,f,a⟩:=array_elem r h i hi;rw[nF,b]at f;simp only[fm,ar]at f;subst f;obtain⟨u,hc,hx,_⟩:=IB o a;have:u=z:=by
  have:=cT Prod.fst hx;simpa using this.symm
 subst this;have s:=cT (·[0]?) hc;simpa[c,MZ,lW]using s
def GQ{P:Program}{w:World}{fuel:Nat}{t e:TypeId}{n m:Nat}{fs:Array Field}{k:IntKind}{cs:List Value}{p:List MemPlace}(f:Nat->List Int)(hf0:∀i,i<n->(f i).length=m)(hn:0<n)(hm0:0<m)
  (ht:P.underlying t=some (.slice e)) (he:P.underlying e=some (.struct fs)) (hf:∀(i:Nat) (f:Field),fs[i]?=some f->P.underlying f.type=some (.int k)/\f.offset=i/\P.cellsOf f.type=1) (hct:P.cellsOf e=fs.size) (hm:fs.size=m)
  (hp:∀b off,MemPlace.cell b off∈p->∃c t,w.heap[b]?=some (.cells c t (0,0)))
  (h:DataW.trod (λ_=>()) P w 0 (λ_=>true) false fuel t cs=some (.slice ((List.range n).map λi=>.agg ((f i).map λz=>.lit (.int k z))) [],p)):
  ∃b o c ty,cs=[.slice (some ⟨b,o,none⟩) n n]/\w.heap[b]?=some (.cells c ty (0,0))/\∀i j,i<n->j<m->c[o+(i*m+j)]?=some (.int k ((f i).getD j 0)):=by
 rcases DataW.trod_slice ht h with⟨_,hx⟩ | ⟨a,len,cap,el,rs,fu,rfl,hcs,hx,_,hlc,_,hel,helem,hsp,_⟩
 ·cases hx
 have e0:=cT Prod.fst hx;simp only[DataW.slice.injEq]at e0;obtain⟨eE,eR⟩:=e0;have hlen:len=n:=by
  have:=cT List.length eE;simp at this;omega
 have hcap:cap=n:=by
  have h1:=(hsp rfl).1;have h2:=cT List.length eR;simp at h2;omega
 have hp2:=cT Prod.snd hx;simp only at hp2;have hcell:∀i j,i<n->j<m->w.cell? ((a.add (i*m)).add j)=some (.int k ((f i).getD j 0)):=by
  intro i j hi hj;have h1:=helem i (by omega);obtain⟨y,hy⟩:∃y,el[i]?=some y:=⟨el[i]'(by omega),bq (by omega)⟩;rw[hy]at h1;obtain⟨ce,hce,hte⟩:=C6.1 h1;have hy1:y.1=.agg ((f i).map λz=>.lit (.int k z)):=by
   have:=cT (·[i]?) eE;simp only[nF,hy,List.getElem?_range hi,fm,ar]at this;exact this.symm
  have hy2:y=(.agg ((f i).map λz=>.lit (.int k z)),y.2):=by rw[<-hy1]
  rw[hy2]at hte;have hint:=ints_of_struct he hf hct hte;obtain⟨_,_,hcc⟩:=Ht hce;rw[hct,hm]at hcc;rw[hcc j hj,hint,nF,bq (by rw[hf0 i hi];exact hj)];simp[List.getD,bq (show j<(f i).length by rw[hf0 i hi];exact hj)]
 obtain⟨b,o,s⟩:=a;have hb:MemPlace.cell b o∈p:=by
  rw[hp2,hct,hm,hel,hlen];refine ln.2 (.inl ?_);simp only[MemPlace.row,eD,gS];exact⟨0,Nat.mul_pos (by omega) hm0,rfl⟩
 obtain rfl:s=none:=by
  have h00:=hcell 0 0 hn hm0;have:((Addr.add ⟨b,o,s⟩ (0*m)).add 0)=⟨b,o,s⟩:=by simp[Addr.add]
  rw[this]at h00;exact cell_spot h00
 obtain⟨c,ty,hh⟩:=hp b o hb;refine⟨b,o,c,ty,by rw[hcs,hlen,hcap],hh,λi j hi hj=>?_⟩;have:=hcell i j hi hj;rw[Addr.add_lit,Addr.add_lit,bh hh]at this;rw[<-this,gR]
def GF{P:Program}{w:World}{fuel:Nat}{t:TypeId}{u:Array (String×TypeId)}{a:List Value}{f:String}{d:DataW Unit}{p:List MemPlace}(c:P.underlying t=some (.interface u))
  (h:DataW.trod (λ_=>()) P w 0 (λ_=>true) false fuel t a=some (.iface f d,p)):∃e b,a=[.iface e b]:=by
 cases fuel with
 | zero=>simp[DataW.trod]at h
 | succ n=>
  unfold DataW.trod at h;rw[c]at h;split at h<;>simp_all
end Go.Abs
namespace Go.Abs
open Go.Proofs Go.RowKit Go.Lib Go.Proofs.YtibehcmomiplnaaGreatDoor
def To(i:Nat):List Int:=[tw.getD (i*2) 0,tw.getD (i*2+1) 0]
def SJ(i:Nat):List Int:=[H8.getD (i*2) 0,H8.getD (i*2+1) 0]
def tn{c:Array Value}{o n:Nat}{l:List Int}{f:Nat->List Int}(k:l.length=n*2)(g:((List.range (n*2)).all λi=>l[i]?==some ((f (i / 2)).getD (i%2) 0))=true)
  (h:∀i j,i<n->j<2->c[o+(i*2+j)]?=some (.int .i64 ((f i).getD j 0))):Is c o l:=by
 intro i z b;have hi:i<n*2:=by
  rcases aN i (n*2)with e | e
  ·exact e
  ·rw[gh (by omega)]at b;cases b
 have a:=bO.1 g i (by simpa using hi);simp only[bu]at a;rw[b,ar]at a;have d:=h (i / 2) (i%2) (by omega) (by omega);rw[show i / 2*2+i%2=i by omega]at d;rw[d,<-a]
def LD:List Int:=(List.range 256).map λc=>(Lib.firstT c:Int)
def Lq(i:Nat):List Int:=[(Lib.accLo i:Int),(Lib.accHi i:Int)]
def RO:Rows.laid_unicode_utf8_first=.agg (LD.map λz=>.lit (.int .u8 z)):=by kernel_rfl
def NB:(Rows.laid_unicode_utf8_acceptRanges:DataW Unit)=DataW.agg ((List.range 16).map λi=>DataW.agg ((Lq i).map λz=>DataW.lit (.int .u8 z))):=by kernel_rfl
def Kw {w:World} {l:List (String×DataW Unit)} (h:laidMet Tryz.prog l w)
  (m0:("circa/seasons.spans",Rows.laid_circa_seasons_spans)∈l) (m1:("circa/months.lengths",Rows.laid_circa_months_lengths)∈l)
  (m2:("circa/years.steps",Rows.laid_circa_years_steps)∈l) (m3:("strconv.ErrSyntax",Rows.laid_strconv_ErrSyntax)∈l)
  (m4:("unicode/utf8.first",Rows.laid_unicode_utf8_first)∈l) (m5:("unicode/utf8.acceptRanges",Rows.laid_unicode_utf8_acceptRanges)∈l):GL gX w:=by
 obtain ⟨c0,f0,p0,t0,d0,h0,_⟩:=sG h m0 (g:=1) (t:=285) (by kernel_rfl) (by kernel_rfl);obtain ⟨c1,f1,p1,t1,d1,h1,_⟩:=sG h m1 (g:=4) (t:=305) (by kernel_rfl) (by kernel_rfl);obtain ⟨c2,f2,p2,t2,d2,h2,q2⟩:=sG h m2 (g:=8) (t:=323) (by kernel_rfl) (by kernel_rfl);obtain ⟨c4,f4,p4,t4,d4,h4,_⟩:=sG h m3 (g:=2) (t:=191) (by kernel_rfl) (by kernel_rfl);obtain ⟨c5,f5,p5,t5,d5,h5,_⟩:=sG h m4 (g:=5) (t:=306) (by kernel_rfl) (by kernel_rfl);obtain ⟨c6,f6,p6,t6,d6,h6,_⟩:=sG h m5 (g:=6) (t:=309) (by kernel_rfl) (by kernel_rfl);rw [RO] at d5;rw [NB] at d6;have a5:=zK (l:=LD) (n:=256) (by kernel_rfl) Tryz.underlying306 Tryz.underlying5 (by kernel_rfl) d5;have a6:=FG (n:=16) (m:=2) Lq (λ_ _=>rfl) Tryz.underlying309 Tryz.underlying308 (λi f hf=>by
  rcases i with _ | _ | i
  ·cases hf;exact ⟨by kernel_rfl,by kernel_rfl,by kernel_rfl⟩
  ·cases hf;exact ⟨by kernel_rfl,by kernel_rfl,by kernel_rfl⟩
  ·cases hf) (by kernel_rfl) rfl d6
 have a0:=FG (n:=21) (m:=2) To (λ_ _=>rfl) Tryz.underlying285 Tryz.underlying284 (λi f hf=>by
  rcases i with _ | _ | i
  ·cases hf;exact ⟨by kernel_rfl,by kernel_rfl,by kernel_rfl⟩
  ·cases hf;exact ⟨by kernel_rfl,by kernel_rfl,by kernel_rfl⟩
  ·cases hf) (by kernel_rfl) rfl d0
 have a1:=zK (l:=Ig) (n:=12) rfl Tryz.underlying305 Tryz.underlying3 (by kernel_rfl) d1
 obtain ⟨b,o,c,ty,e2,hb,a2⟩:=GQ (n:=3) (m:=2) SJ (λ_ _=>rfl) (by omega) (by omega) Tryz.underlying323 Tryz.underlying324 (λi f hf=>by
  rcases i with _ | _ | i
  ·cases hf;exact ⟨by kernel_rfl,by kernel_rfl,by kernel_rfl⟩
  ·cases hf;exact ⟨by kernel_rfl,by kernel_rfl,by kernel_rfl⟩
  ·cases hf) (by kernel_rfl) rfl q2 d2
 obtain ⟨te,pe,e4⟩:=GF Tryz.underlying191 d4;have g0:c0[0]?=some (.int .i64 3):=by rw [<-qB];exact a0 0 0 (by omega) (by omega)
 have g1:c1[0]?=some (.int .i64 31):=by rw [<-qB];exact a1 0 31 rfl
 have pos:∀{c:Array Value} {x:Value},c[0]?=some x->0<c.size:=λ{c} {x} h=>by
  rcases CY c.size with h' | h'
  ·rw [wo (by omega)] at h;cases h
  ·exact h'
 have g2:c2[0]?=some (.slice (some ⟨b,o,none⟩) 3 3):=by rw [<-qB,e2];rfl
 have g4:c4[0]?=some (.iface te pe):=by rw [<-qB,e4];rfl
 have g5:∀i:Nat,i<256->c5[i]?=some (.int .u8 (Lib.firstT i)):=λi hi=>by
  rw [<-qB];exact a5 i _ (by simp [LD,hi])
 have g6:∀i:Nat,i<16->c6[i*2]?=some (.int .u8 (Lib.accLo i))/\c6[i*2+1]?=some (.int .u8 (Lib.accHi i)):=λi hi=>
  ⟨by rw [<-qB];exact a6 i 0 hi (by omega),by rw [<-qB];exact a6 i 1 hi (by omega)⟩
 refine ⟨_,⟨c0,c1,c2,c,t0,t1,t2,ty,b,o,⟨c4,t4,(te,(c5,t5),(c6,t6)),pe,rfl,g4,g5,g6⟩,?_,?_,g2,?_⟩,?_,λx _ b q hb=>by cases hb⟩
 ·exact tn (n:=21) (f:=To) rfl (by decide) λi j hi hj=>by
   rw [cU,<-qB];exact a0 i j hi hj
 ·intro i z hz;rw [cU,<-qB];exact a1 i z hz
 ·exact tn (n:=3) (f:=SJ) rfl (by decide) λi j hi hj=>a2 i j hi hj
 ·intro x hx;simp only [cN,pC,qw] at hx;rcases hx with rfl | rfl | rfl | rfl | rfl | rfl | rfl
  ·exact h0 (pos g0)
  ·exact h1 (pos g1)
  ·exact h2 (pos g2)
  ·exact hb
  ·exact h4 (pos g4)
  ·exact h5 (pos (g5 0 (by omega)))
  ·exact h6 (pos (g6 0 (by omega)).1)
end Go.Abs
