
/- From the row's laid variables to what the seat's Glob says of the package-level variables.
   Conditions: none. -/
import Derived.Test.YtjkmipianfkncaaGreatDoorAbsX
import Derived.Test.YtjkmipianfkncaaGreatDoorProg
import Derived.Test.YtjkmipianfkncaaGreatDoorRows
import Derived.Lib.LaidU8
import Derived.Lay
import Derived.LaidMore
set_option linter.unusedVariables false
set_option linter.unusedSimpArgs false
set_option maxRecDepth 100000
set_option linter.defProp false
namespace Go.Abs
open Go.Proofs Go.RowKit Go.Lib
def FV{P:Program}{w:World}:∀{l:List (String×DataW Unit)} {c:List MemPlace},DataW.LaidVars P w l c->∀n d,(n,d)∈l->
  ∃g t b fuel p,P.globalNamed n=some g/\(P.globals[g]?).map (·.type)=some t/\w.var? P n=some b/\DataW.trod (λ_=>()) P w 0 (λ_=>true) false fuel t b.toList=some (d,p)/\
   (∀x∈MemPlace.row ⟨g,0,none⟩ b.size,x∈c)/\∀x∈p,x∈c
 | [],_,_,_,_,f=>by cases f
 | (C,d')::r,c,h,n,d,f=>by
  obtain⟨g,t,b,fuel,p,q,B,k,m,y,o,rfl⟩:=h;rcases cT.1 f with e | e
  ·cases e;exact⟨g,t,b,fuel,p,B,k,m,y,λx hx=>by simp[hx],λx hx=>by simp[hx]⟩
  ·obtain⟨j,s,i,a,A,k1,k2,z,k4,u,v⟩:=FV o n d e;exact⟨j,s,i,a,A,k1,k2,z,k4,λx hx=>by simp[u x hx],λx hx=>by simp[v x hx]⟩
def qP{P:Program}{w:World}{l:List (String×DataW Unit)}(h:laidMet P l w){n:String}{d:DataW Unit}(k:(n,d)∈l){g:Nat}{t:TypeId}(s:P.globalNamed n=some g)(hy:(P.globals[g]?).map (·.type)=some t):
  ∃a fuel p e,DataW.trod (λ_=>()) P w 0 (λ_=>true) false fuel t a.toList=some (d,p)/\(0<a.size->w.heap[g]?=some (.cells a e (0,0)))/\
   ∀b off,MemPlace.cell b off∈p->∃c t,w.heap[b]?=some (.cells c t (0,0)):=by
 obtain⟨x,r,_,hp⟩:=h;obtain⟨u,v,a,fuel,p,k1,k2,j,k4,m,o⟩:=FV r n d k;obtain rfl:=aZ (s.symm.trans k1);obtain rfl:=aZ (hy.symm.trans k2);obtain⟨e,f⟩:∃e,0<a.size->w.heap[g]?=some (.cells a e (0,0)):=by
  by_cases hs:0<a.size
  ·obtain⟨c,e,i⟩:=(hp g 0 (m _ (by simp only[MemPlace.row,ew,kx];exact⟨0,hs,rfl⟩))).1;refine⟨e,λ_=>?_⟩;simp only[World.var?,k1,Option.bind_some,i,ar]at j;rw[i,j]
  ·exact⟨0,λh=>absurd h hs⟩
 exact⟨a,fuel,p,e,k4,f,λb off q=>(hp b off (o _ q)).1⟩
def BO{P:Program}{w:World}{fuel:Nat}{t e:TypeId}{n m:Nat}{c:Array Field}{k:IntKind}{s:List Value}{p:List MemPlace}(f:Nat->List Int)(a:∀i,i<n->(f i).length=m)
  (y:P.underlying t=some (.array n e)) (v:P.underlying e=some (.struct c)) (x:∀(i:Nat) (f:Field),c[i]?=some f->P.underlying f.type=some (.int k)/\f.offset=i/\P.cellsOf f.type=1) (b:P.cellsOf e=c.size) (u:c.size=m)
  (h:DataW.trod (λ_=>()) P w 0 (λ_=>true) false fuel t s=some (.agg ((List.range n).map λi=>.agg ((f i).map λz=>.lit (.int k z))),p)):
  ∀i j:Nat,i<n->j<m->s[i*m+j]?=some (Value.int k ((f i).getD j 0)):=by
 intro i j hi g;obtain⟨l,d,q,hd,o⟩:=array_elem y h i hi;rw[pg,List.getElem?_range hi]at hd;simp only[eO,ar]at hd;subst hd;have:=ints_of_struct v x b o;have r:=ck (·[j]?) this;simp only[b,u,Jf,mX,g,aH,pg]at r;rw[r,bg (by rw[a i hi];exact g)];simp[List.getD,bg (show j<(f i).length by rw[a i hi];exact g)]
def xZ{P:Program}{w:World}{fuel:Nat}{t e:TypeId}{n:Nat}{k:IntKind}{j:List Value}{p:List MemPlace}{l:List Int}(u:l.length=n)
  (s:P.underlying t=some (.array n e)) (o:P.underlying e=some (.int k)) (f:P.cellsOf e=1)
  (h:DataW.trod (λ_=>()) P w 0 (λ_=>true) false fuel t j=some (.agg (l.map λz=>.lit (.int k z)),p)):
  ∀(i:Nat) (z:Int),l[i]?=some z->j[i]?=some (Value.int k z):=by
 intro i z c;have hi:i<n:=by
  rcases aF i n with g | g
  ·exact g
  ·rw[gC (by omega)]at c;cases c
 obtain⟨a,d,q,hd,b⟩:=array_elem s h i hi;rw[pg,c]at hd;simp only[eO,ar]at hd;subst hd;obtain⟨r,hc,hx,_⟩:=DataW.trod_int o b;have:r=z:=by
  have:=ck Prod.fst hx;simpa using this.symm
 subst this;have m:=ck (·[0]?) hc;simpa[f,Jf,mX]using m
def Du{P:Program}{w:World}{fuel:Nat}{t e:TypeId}{n m:Nat}{fs:Array Field}{k:IntKind}{cs:List Value}{p:List MemPlace}(f:Nat->List Int)(hf0:∀i,i<n->(f i).length=m)(hn:0<n)(hm0:0<m)
  (ht:P.underlying t=some (.slice e)) (he:P.underlying e=some (.struct fs)) (hf:∀(i:Nat) (f:Field),fs[i]?=some f->P.underlying f.type=some (.int k)/\f.offset=i/\P.cellsOf f.type=1) (hct:P.cellsOf e=fs.size) (hm:fs.size=m)
  (hp:∀b off,MemPlace.cell b off∈p->∃c t,w.heap[b]?=some (.cells c t (0,0)))
  (h:DataW.trod (λ_=>()) P w 0 (λ_=>true) false fuel t cs=some (.slice ((List.range n).map λi=>.agg ((f i).map λz=>.lit (.int k z))) [],p)):
  ∃b o c ty,cs=[.slice (some ⟨b,o,none⟩) n n]/\w.heap[b]?=some (.cells c ty (0,0))/\∀i j,i<n->j<m->c[o+(i*m+j)]?=some (.int k ((f i).getD j 0)):=by
 rcases DataW.trod_slice ht h with⟨_,hx⟩ | ⟨a,len,cap,el,rs,fu,rfl,hcs,hx,_,hlc,_,hel,helem,hsp,_⟩
 ·cases hx
 have e0:=ck Prod.fst hx;simp only[DataW.slice.injEq]at e0;obtain⟨eE,eR⟩:=e0;have hlen:len=n:=by
  have:=ck List.length eE;simp at this;omega
 have hcap:cap=n:=by
  have h1:=(hsp rfl).1;have h2:=ck List.length eR;simp at h2;omega
 have hp2:=ck Prod.snd hx;simp only at hp2;have hcell:∀i j,i<n->j<m->w.cell? ((a.add (i*m)).add j)=some (.int k ((f i).getD j 0)):=by
  intro i j hi hj;have h1:=helem i (by omega);obtain⟨y,hy⟩:∃y,el[i]?=some y:=⟨el[i]'(by omega),bg (by omega)⟩;rw[hy]at h1;obtain⟨ce,hce,hte⟩:=Option.bind_eq_some_iff.1 h1;have hy1:y.1=.agg ((f i).map λz=>.lit (.int k z)):=by
   have:=ck (·[i]?) eE;simp only[pg,hy,List.getElem?_range hi,eO,ar]at this;exact this.symm
  have hy2:y=(.agg ((f i).map λz=>.lit (.int k z)),y.2):=by rw[<-hy1]
  rw[hy2]at hte;have hint:=ints_of_struct he hf hct hte;obtain⟨_,_,hcc⟩:=World.cells?_some hce;rw[hct,hm]at hcc;rw[hcc j hj,hint,pg,bg (by rw[hf0 i hi];exact hj)];simp[List.getD,bg (show j<(f i).length by rw[hf0 i hi];exact hj)]
 obtain⟨b,o,s⟩:=a;have hb:MemPlace.cell b o∈p:=by
  rw[hp2,hct,hm,hel,hlen];refine lV.2 (.inl ?_);simp only[MemPlace.row,ew,kx];exact⟨0,Nat.mul_pos (by omega) hm0,rfl⟩
 obtain rfl:s=none:=by
  have h00:=hcell 0 0 hn hm0;have:((Addr.add ⟨b,o,s⟩ (0*m)).add 0)=⟨b,o,s⟩:=by simp[Addr.add]
  rw[this]at h00;exact cell_spot h00
 obtain⟨c,ty,hh⟩:=hp b o hb;refine⟨b,o,c,ty,by rw[hcs,hlen,hcap],hh,λi j hi hj=>?_⟩;have:=hcell i j hi hj;rw[Addr.add_lit,Addr.add_lit,bC hh]at this;rw[<-this,gN]
def Eh{P:Program}{w:World}{fuel:Nat}{t:TypeId}{u:Array (String×TypeId)}{a:List Value}{b:String}{d:DataW Unit}{p:List MemPlace}(f:P.underlying t=some (.interface u))
  (h:DataW.trod (λ_=>()) P w 0 (λ_=>true) false fuel t a=some (.iface b d,p)):∃c e,a=[.iface c e]:=by
 cases fuel with
 | zero=>simp[DataW.trod]at h
 | succ n=>
  unfold DataW.trod at h;rw[f]at h;split at h<;>simp_all
end Go.Abs
namespace Go.Abs
open Go.Proofs Go.RowKit Go.Lib Go.Proofs.YtjkmipianfkncaaGreatDoor
def Ot(i:Nat):List Int:=[ra.getD (i*2) 0,ra.getD (i*2+1) 0]
def O8(i:Nat):List Int:=[F6.getD (i*2) 0,F6.getD (i*2+1) 0]
def rh{c:Array Value}{o n:Nat}{l:List Int}{f:Nat->List Int}(k:l.length=n*2)(g:((List.range (n*2)).all λi=>l[i]?==some ((f (i / 2)).getD (i%2) 0))=true)
  (h:∀i j,i<n->j<2->c[o+(i*2+j)]?=some (.int .i64 ((f i).getD j 0))):Gn c o l:=by
 intro i z b;have hi:i<n*2:=by
  rcases aF i (n*2)with e | e
  ·exact e
  ·rw[gC (by omega)]at b;cases b
 have a:=cq.1 g i (by simpa using hi);simp only[bv]at a;rw[b,ar]at a;have d:=h (i / 2) (i%2) (by omega) (by omega);rw[show i / 2*2+i%2=i by omega]at d;rw[d,<-a]
def KZ:List Int:=(List.range 256).map λc=>(Lib.firstT c:Int)
def Lp(i:Nat):List Int:=[(Lib.accLo i:Int),(Lib.accHi i:Int)]
def LZ:Rows.laid_unicode_utf8_first=.agg (KZ.map λz=>.lit (.int .u8 z)):=by kernel_rfl
def Jn:(Rows.laid_unicode_utf8_acceptRanges:DataW Unit)=DataW.agg ((List.range 16).map λi=>DataW.agg ((Lp i).map λz=>DataW.lit (.int .u8 z))):=by kernel_rfl
def HK {w:World} {l:List (String×DataW Unit)} (h:laidMet Tryz.prog l w)
  (m0:("circa/seasons.spans",Rows.laid_circa_seasons_spans)∈l) (m1:("circa/months.lengths",Rows.laid_circa_months_lengths)∈l)
  (m2:("circa/years.steps",Rows.laid_circa_years_steps)∈l) (m3:("strconv.ErrSyntax",Rows.laid_strconv_ErrSyntax)∈l)
  (m4:("unicode/utf8.first",Rows.laid_unicode_utf8_first)∈l) (m5:("unicode/utf8.acceptRanges",Rows.laid_unicode_utf8_acceptRanges)∈l):GL jo w:=by
 obtain ⟨c0,f0,p0,t0,d0,h0,_⟩:=qP h m0 (g:=1) (t:=258) (by kernel_rfl) (by kernel_rfl);obtain ⟨c1,f1,p1,t1,d1,h1,_⟩:=qP h m1 (g:=2) (t:=265) (by kernel_rfl) (by kernel_rfl);obtain ⟨c2,f2,p2,t2,d2,h2,q2⟩:=qP h m2 (g:=7) (t:=295) (by kernel_rfl) (by kernel_rfl);obtain ⟨c4,f4,p4,t4,d4,h4,_⟩:=qP h m3 (g:=3) (t:=169) (by kernel_rfl) (by kernel_rfl);obtain ⟨c5,f5,p5,t5,d5,h5,_⟩:=qP h m4 (g:=5) (t:=277) (by kernel_rfl) (by kernel_rfl);obtain ⟨c6,f6,p6,t6,d6,h6,_⟩:=qP h m5 (g:=6) (t:=280) (by kernel_rfl) (by kernel_rfl);rw [LZ] at d5;rw [Jn] at d6;have a5:=xZ (l:=KZ) (n:=256) (by kernel_rfl) Tryz.underlying277 Tryz.underlying5 (by kernel_rfl) d5;have a6:=BO (n:=16) (m:=2) Lp (λ_ _=>rfl) Tryz.underlying280 Tryz.underlying279 (λi f hf=>by
  rcases i with _ | _ | i
  ·cases hf;exact ⟨by kernel_rfl,by kernel_rfl,by kernel_rfl⟩
  ·cases hf;exact ⟨by kernel_rfl,by kernel_rfl,by kernel_rfl⟩
  ·cases hf) (by kernel_rfl) rfl d6
 have a0:=BO (n:=21) (m:=2) Ot (λ_ _=>rfl) Tryz.underlying258 Tryz.underlying257 (λi f hf=>by
  rcases i with _ | _ | i
  ·cases hf;exact ⟨by kernel_rfl,by kernel_rfl,by kernel_rfl⟩
  ·cases hf;exact ⟨by kernel_rfl,by kernel_rfl,by kernel_rfl⟩
  ·cases hf) (by kernel_rfl) rfl d0
 have a1:=xZ (l:=Gi) (n:=12) rfl Tryz.underlying265 Tryz.underlying3 (by kernel_rfl) d1
 obtain ⟨b,o,c,ty,e2,hb,a2⟩:=Du (n:=3) (m:=2) O8 (λ_ _=>rfl) (by omega) (by omega) Tryz.underlying295 Tryz.underlying296 (λi f hf=>by
  rcases i with _ | _ | i
  ·cases hf;exact ⟨by kernel_rfl,by kernel_rfl,by kernel_rfl⟩
  ·cases hf;exact ⟨by kernel_rfl,by kernel_rfl,by kernel_rfl⟩
  ·cases hf) (by kernel_rfl) rfl q2 d2
 obtain ⟨te,pe,e4⟩:=Eh Tryz.underlying169 d4;have g0:c0[0]?=some (.int .i64 3):=by rw [<-qp];exact a0 0 0 (by omega) (by omega)
 have g1:c1[0]?=some (.int .i64 31):=by rw [<-qp];exact a1 0 31 rfl
 have pos:∀{c:Array Value} {x:Value},c[0]?=some x->0<c.size:=λ{c} {x} h=>by
  rcases zl c.size with h' | h'
  ·rw [xj (by omega)] at h;cases h
  ·exact h'
 have g2:c2[0]?=some (.slice (some ⟨b,o,none⟩) 3 3):=by rw [<-qp,e2];rfl
 have g4:c4[0]?=some (.iface te pe):=by rw [<-qp,e4];rfl
 have g5:∀i:Nat,i<256->c5[i]?=some (.int .u8 (Lib.firstT i)):=λi hi=>by
  rw [<-qp];exact a5 i _ (by simp [KZ,hi])
 have g6:∀i:Nat,i<16->c6[i*2]?=some (.int .u8 (Lib.accLo i))/\c6[i*2+1]?=some (.int .u8 (Lib.accHi i)):=λi hi=>
  ⟨by rw [<-qp];exact a6 i 0 hi (by omega),by rw [<-qp];exact a6 i 1 hi (by omega)⟩
 refine ⟨_,⟨c0,c1,c2,c,t0,t1,t2,ty,b,o,⟨c4,t4,(te,(c5,t5),(c6,t6)),pe,rfl,g4,g5,g6⟩,?_,?_,g2,?_⟩,?_,λx _ b q hb=>by cases hb⟩
 ·exact rh (n:=21) (f:=Ot) rfl (by decide) λi j hi hj=>by
   rw [dc,<-qp];exact a0 i j hi hj
 ·intro i z hz;rw [dc,<-qp];exact a1 i z hz
 ·exact rh (n:=3) (f:=O8) rfl (by decide) λi j hi hj=>a2 i j hi hj
 ·intro x hx;simp only [cT,rR,t8] at hx;rcases hx with rfl | rfl | rfl | rfl | rfl | rfl | rfl
  ·exact h0 (pos g0)
  ·exact h1 (pos g1)
  ·exact h2 (pos g2)
  ·exact hb
  ·exact h4 (pos g4)
  ·exact h5 (pos (g5 0 (by omega)))
  ·exact h6 (pos (g6 0 (by omega)).1)
end Go.Abs
