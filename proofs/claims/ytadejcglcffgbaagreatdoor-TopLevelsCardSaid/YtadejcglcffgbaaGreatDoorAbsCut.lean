
import Derived.Test.YtadejcglcffgbaaGreatDoorAbsV
set_option linter.unusedSimpArgs false
set_option linter.unusedVariables false
set_option linter.defProp false
namespace Go.Abs
variable {P:Program}
def qE{f:Nat->Bool}:∀{r i:Nat},um f r i=true->∀j,i<=j->j<i+r->f j=true
 | 0,_,_,j,_,_=>by omega
 | r+1,i,h,j,c,b=>by
  simp only[um,aB]at h;by_cases a:j=i
  ·rw[a];exact h.1
  ·exact qE h.2 j (by omega) (by omega)
def EA{n:Nat}{ops:Array Oper}{r i:Nat}{a:Array Bool}(h:uY n ops (r+1) i a=true):
  ∃o x,ops[i]?=some o/\o.op=.move x/\o.guard=none/\vi n o.dst=true/\Region.free .any ops a i=true/\(Region.ready .any ops a).contains i=true/\uY n ops r (i+1) (a.setIfInBounds i true)=true:=by
 simp only[uY,aB]at h;obtain⟨b,d,j,g⟩:=h;split at b
 ·rename_i o k;simp only[aB]at b;obtain⟨c,e,f⟩:=b;split at c
  ·rename_i x hx;exact⟨o,x,k,hx,by simpa using e,f,d,j,g⟩
  ·cases c
 ·cases b
def H7{α:Type}{n:Nat}{ops:List Oper}(f:Region.noSelect ops.toArray=true){ι0:Inj}{w0:Base}{ι:Inj}{w:World}{Q:Exit->Act->World->Prop}(C:∀c a w,¬Q (.panic c) a w){fuel:Nat}{k:St->Option α}{z:α}:
  ∀(r i:Nat) (b:Array Bool) (s:St) (a:Act),uY n ops.toArray r i b=true->b.size=ops.length->i+r<=ops.length->(∀j,j<i->Dn b j=true)->(∀j,i<=j->Dn b j=false)->Inv n ι0 w0 ι s a w->
   runM ((ops.drop i).take r) s k=some z->
   (∀(s':St) (m:Act) (d:Array Bool),k s'=some z->Inv n ι0 w0 ι s' m w->s'.nb=s.nb->d.size=ops.length->(∀j,j<i+r->Dn d j=true)->(∀j,i+r<=j->Dn d j=false)->wpAny P .any ops.toArray Q fuel d m w)->
   wpAny P .any ops.toArray Q (fuel+r) b a w
 | 0,i,b,s,a,_,hs,_,p,t,e,h,B=>by
  simp only[mV,runM]at h;exact B s a b h e rfl hs (by simpa using p) (by simpa using t)
 | r+1,i,b,s,a,H,hs,K,p,t,e,h,B=>by
  obtain⟨o,x,D,hx,G,E,F,N,q⟩:=EA H;have ho':ops[i]?=some o:=by simpa using D
  have g:(ops.drop i).take (r+1)=o::(ops.drop (i+1)).take r:=by
   have hi:i<ops.length:=by omega
   rw[bu hi]at ho';simp only[aq]at ho';rw[rD hi,mU,ho']
  rw[g]at h;simp only[runM,hx]at h;obtain⟨u,T,h⟩:=ax h;have S:=bz e.tmps T;have hy:Yields P ops.toArray o (a.eval x) a:=.inl ⟨by simp[Region.wanted,G],λw=>by simp[execOp,hx]⟩;have hI':Inv n ι0 w0 ι (s.app o.dst (some u) [] s.nb) (a.put o.dst (a.eval x)) w:=
   ⟨by rw[nB];exact e.size,by rw[jB];exact e.defers,e.tmps.app e.size E (λv y=>by cases y;exact S),e.mem,e.ext,e.new,e.fr,e.low,e.fz,e.gl⟩
  refine wpAny_take (fuel:=fuel+r) D f F N (λc a w h=>absurd h (C c _ w)) hy ?_;have l:i<b.size:=by omega
  refine H7 f C r (i+1) _ _ _ q (by simpa using hs) (by omega) (λj A=>?_) (λj A=>?_) hI' h λs' m d R O I L M J=>B s' m d R O I L (λj A=>M j (by omega)) (λj A=>J j (by omega))
  ·rw[zW l];split
   ·rfl
   ·exact p j (by omega)
  ·rw[zW l,ab (by omega)];exact t j (by omega)
def ql:Rec:=⟨none,none,[],[]⟩
def yh(s:St):s.put ql=s:=rfl
def pW:∀(m i:Nat) (l:List Rec) (D:Nat->Bool) (s:St),appD i (List.replicate m ql++l) D s=appD (i+m) l D s
 | 0,i,l,D,s=>by simp
 | m+1,i,l,D,s=>by
  rw[tg,fi];simp only[appD,yh,ite_self];rw[pW m (i+1) l D s,show i+1+m=i+(m+1)by omega]
def nT:∀(m i:Nat) (D:Nat->Bool) (s:St),appD i (List.replicate m ql) D s=s
 | 0,i,D,s=>rfl
 | m+1,i,D,s=>by
  rw[tg];simp only[appD,yh,ite_self];exact nT m (i+1) D s
def oq:∀(l m:List Rec) (i:Nat) (D:Nat->Bool) (s:St),appD i (l++m) D s=appD (i+l.length) m D (appD i l D s)
 | [],m,i,D,s=>by simp[appD]
 | r::l,m,i,D,s=>by
  simp only[fi,appD,aG];rw[oq l m (i+1)];rw[show i+1+l.length=i+(l.length+1)by omega]
def xc:∀(l:List Rec) (i:Nat) (D:Nat->Bool) (s:St),(∀j,j<l.length->D (i+j)=false)->appD i l D s=s
 | [],i,D,s,_=>rfl
 | r::l,i,D,s,h=>by
  have a:=h 0 (by simp);simp only[dK]at a;simp only[appD,a,bQ,aF];exact xc l (i+1) D s λj b=>by have:=h (j+1) (by simpa using b);rwa[show i+(j+1)=i+1+j by omega]at this
def rk:∀(m:Nat) (s:St),(List.replicate m ql).foldl St.put s=s
 | 0,_=>rfl
 | m+1,s=>by rw[tg,vD,yh];exact rk m s
def EY{n nb0 kk:Nat}{ops:List Oper}{recs:List Rec}{s0:St}{trf:List TE}(p:ra 0 ops=true)(z:uc ops.toArray (kS ops []) 0 [] ops=true)
  (J:kk+recs.length<=ops.length) (C:s0.nb=nb0+8*ops.length) (B:qm (kS ops []) (trf.filter λx=>!(x.rd.isEmpty&&x.ws.isEmpty))=true)
  (K:∀j r,recs[j]?=some r->(⟨kk+j,r.rd,keys r.wr⟩:TE)∈trf\/(r.rd=[]/\r.wr=[]))
  (Q:∀(j:Nat) (o:Oper) (r:Rec),ops[kk+j]?=some o->recs[j]?=some r->r.dst=o.dst/\uX P n nb0 ops (kk+j) o r ((recs.take j).foldl St.put s0)):
  DrawFacts P n nb0 ops (List.replicate kk ql++(recs++List.replicate (ops.length - (kk+recs.length)) ql)) s0 (λj=>kk<=j/\j<kk+recs.length):=by
 have b:=qG ops ops [] (by simp) (λj i l=>by simp[getN]at l);have a:∀(j:Nat) (r:Rec),(List.replicate kk ql++(recs++List.replicate (ops.length - (kk+recs.length)) ql))[j]?=some r->(r=ql/\¬(kk<=j/\j<kk+recs.length))\/(kk<=j/\j<kk+recs.length/\recs[j - kk]?=some r):=by
  intro j r d;rcases aJ j kk with h | h
  ·rw[n6 (by simpa using h)]at d;exact .inl ⟨(List.mem_replicate.1 (fk d)).2,by omega⟩
  ·rw[qQ (by simpa using h)]at d;simp only[List.length_replicate]at d;rcases aJ (j - kk) recs.length with k | k
   ·rw[n6 k]at d;exact .inr ⟨h,by omega,d⟩
   ·rw[qQ k]at d;exact .inl ⟨(List.mem_replicate.1 (fk d)).2,by omega⟩
 refine⟨by simp;omega,C,λj o r H S=>?_,λj o e H U l=>?_,λi j x y c hx hy=>?_,λi j x y c hx hy=>?_⟩
 ·rcases a j r S with⟨rfl,E⟩ | ⟨R,k,G⟩
  ·exact⟨λt v=>(by cases v),λO=>absurd O E⟩
  ·obtain⟨N,I⟩:=Q (j - kk) o r (by rw[show kk+(j - kk)=j by omega];exact H) G;rw[show kk+(j - kk)=j by omega]at I;refine⟨λt v=>N▸v,λ_=>I.eqv ?_⟩;rw[pW,oq];have L:=rr recs (0+kk) (j - kk) s0;have T:appD (0+kk) recs (λm=>decide (m<0+kk+(j - kk))) s0=appD (0+kk) recs (λm=>decide (m<j)) s0:=by rw[show 0+kk+(j - kk)=j by omega]
   rw[T]at L;rw[nT];exact L
 ·have:=kh ops 0 p j o e H U l;omega
 ·have:=nF (masks:=kS ops []) ops [] z i j x y (by simpa using c) (by simpa using hx) hy;simp only[cE,cK]at this;exact this.imp (b j i) λh=>h
 ·rcases a i x hx with⟨rfl,_⟩ | ⟨R,k,G⟩
  ·exact .inr (by simp[ql,keys])
  ·rcases a j y hy with⟨rfl,_⟩ | ⟨W,V,M⟩
   ·exact .inr (by simp[ql,keys])
   ·have hx':=K (i - kk) x G;have hy':=K (j - kk) y M;rw[show kk+(i - kk)=i by omega]at hx';rw[show kk+(j - kk)=j by omega]at hy';rcases hx' with q | ⟨u,s⟩
    ·rcases hy' with F | ⟨w,A⟩
     ·by_cases g:(x.rd=[]/\x.wr=[])
      ·exact .inr (by simp[g.1,g.2,keys])
      ·by_cases f:(y.rd=[]/\y.wr=[])
       ·exact .inr (by simp[f.1,f.2,keys])
       ·have m1:(⟨i,x.rd,keys x.wr⟩:TE)∈trf.filter λx=>!(x.rd.isEmpty&&x.ws.isEmpty):=by
         refine l8.2 ⟨q,?_⟩;simp only[keys,jX,IE,BD];rcases It (x.rd=[])with h | h
         ·exact .inr (by simpa usingλD=>g ⟨h,D⟩)
         ·exact .inl h
        have m2:(⟨j,y.rd,keys y.wr⟩:TE)∈trf.filter λx=>!(x.rd.isEmpty&&x.ws.isEmpty):=by
         refine l8.2 ⟨F,?_⟩;simp only[keys,jX,IE,BD];rcases It (y.rd=[])with h | h
         ·exact .inr (by simpa usingλD=>f ⟨h,D⟩)
         ·exact .inl h
        have:=Eh (re B _ m1 _ m2 c) c;exact this.imp (b j i) λh=>h
     ·exact .inr (by simp[w,A,keys])
    ·exact .inr (by simp[u,s,keys])
def Inv.grow{n:Nat}{ι0 ι:Inj}{w0:Base}{s:St}{a:Act}{w:World}(h:Inv n ι0 w0 ι s a w)(m:Nat):Inv n ι0 w0 ι { s with nb:=s.nb+m } a w:=
 ⟨h.size,h.defers,h.tmps,⟨h.mem.inj,λb r C=>by have:=h.mem.low b r C;simp only;omega,h.mem.dom,h.mem.blk⟩,h.ext,h.new,h.fr,h.low,h.fz,h.gl⟩
def Di{ops:List Oper}(h:Vg ops=true):Region.noSelect ops.toArray=true:=by
 unfold Vg at h;unfold Region.noSelect;rw[List.all_toArray,bS];rw[bS]at h;intro o b;have:=h o b;cases a:o.op<;>simp_all
def Nc{α:Type}{E:List Ent}(hE:∀x∈E,fC P x){n:Nat}{ops:List Oper}{lim:Nat}{s:St}{k:Ex->St->Option α}{z:α}(h:Pn P E n ops lim s k=some z)(id:Nat):
  SemC P n (.region id ops.toArray true) s λex s'=>k ex s'=some z:=by
 intro ι0 w0 ι a w hI;unfold Pn at h;simp only at h;generalize hkk:Nr (getN (kS ops []) lim) lim lim 0=kk at h;split at h
 case h_2=>cases h
 rename_i hok;simp only[aB,I7,WT]at hok;obtain⟨⟨L,R,hb3⟩,hmix,l,K,A,hup,q⟩:=hok;have l:lim<ops.length:=aI l;have K:=aI K;have g:=qG ops ops [] (by simp) (λj i hb=>by simp[getN]at hb);have hI1:Inv n ι0 w0 ι { s with nb:=s.nb+8*ops.length } a { w with drawn:=w.drawn+1 }:=(hI.drawn (w.drawn+1)).grow _;let Q:Exit->Act->World->Prop:=λe a w=>e=.normal/\∃s' C,Inv n ι0 w0 C s' a w/\k .normal s'=some z;refine uJ (λe a w (hq:Q e a w)=>?_) (wp_region_any (Q:=Q) hmix ?_)
 ·obtain⟨rfl,s',C,u,M⟩:=hq;exact⟨.normal,s',C,rfl,u,M⟩
 have hD0:∀i,Dn (Array.replicate ops.length false) i=false:=by
  intro i;unfold Dn;simp only[rK,Ws];split<;>rfl
 have hsz:ops.toArray.size=(ops.length - kk)+kk:=by simp;omega
 rw[hsz,show Array.replicate ((ops.length - kk)+kk) false=Array.replicate ops.length false by rw[Nat.sub_add_cancel (by omega)]];refine H7 (Di hb3) (λc a w hq=>by cases hq.1) kk 0 _ _ a A (by simp) (by omega) (λj hj=>by omega) (λj _=>hD0 j) hI1 (by rw[cS];exact h) λs0 a0 f h hI0 I hs0 G B=>?_;simp only[cK]at G B;simp only at I;rcases BY hE ((ops.take lim).drop kk) kk s0 [] (by simp;omega) h with⟨recs,sf,trf,g1,y,g3,_,g5,g6⟩ | ⟨p,po,recs,sf,sp,trf,v,wr,rp,_,_,_,_,_,_,y,_⟩
 case inr=>cases y
 split at y
 case h_2=>cases y
 rename_i htr;have hl1:recs.length=lim - kk:=by rw[g1];simp;omega
 have hmid:∀j,j<lim - kk->((ops.take lim).drop kk)[j]?=ops[kk+j]?:=λj hj=>by
  rw[lK,NY,ae (by omega)]
 have F:=EY (P:=P) (n:=n) (nb0:=s.nb) (kk:=kk) (ops:=ops) (recs:=recs) (s0:=s0) (trf:=trf) L R (by omega) I htr g5 (λj o r ho hr=>by
  have hj:j<recs.length:=by
   rcases aJ j recs.length with h' | h'
   ·exact h'
   ·rw[f7 h']at hr;cases hr
  exact g6 j o r (by rw[hmid j (by omega)];exact ho) hr)
 split at y
 case h_2=>cases y
 rename_i o hoa;split at y
 case h_2=>cases y
 rename_i hga;have hst0:appD 0 (List.replicate kk ql++(recs++List.replicate (ops.length - (kk+recs.length)) ql)) (Dn f) s0=s0:=by
  rw[pW,oq,nT];exact xc recs _ _ _ λj _=>B _ (by omega)
 have hcnt:∀m,((List.range m).filter λi=>!Dn f i).length<=m - kk:=by
  intro m
  induction m with
  | zero=>simp
  | succ m ih=>
   rw[List.range_succ,MQ,aZ];rcases aJ m kk with hm | hm
   ·have:([m].filter λi=>!Dn f i)=[]:=by simp[G m hm]
    rw[this,cE];omega
   ·have:([m].filter λi=>!Dn f i).length<=1:=by simpa using List.length_filter_le (λi=>!Dn f i) [m]
    omega
 refine QL F (lim:=lim) (kk:=kk) l (λj u M=>⟨⟨u,by omega⟩,g lim j (qE hup j u (by omega))⟩) (λj u M=>g j lim (qE q j u (by omega))) (λfuel d ι1 a1 w1 hs1 J hn1 X W hI2 hc1=>?_) _ f ι a0 _ hs0 G (λj o' e ho H he hb=>?_) (B lim K) (by rw[hst0];exact hI0) (λi hi hni b U hb2'=>hI.fresh b (by omega)) (hcnt _)
 ·
  have hD1:appD 0 (List.replicate kk ql++(recs++List.replicate (ops.length - (kk+recs.length)) ql)) (Dn d) s0=recs.foldl St.put s0:=by
   rw[pW,oq,nT];exact BI recs _ _ _ λj hj=>J _ (by omega)
  rw[hD1]at hI2;have V:=hI2.eqv g3.symm;have hoa':ops.toArray[lim]?=some o:=by simpa using hoa
  unfold wpOp;rw[hoa'];simp only;rw[ae (by simp[Region.wanted,hga])];refine .inl (B5 hE V (λb hb=>V.fresh b hb) (aU _) y (λD S a2 w2 M hI4=>?_) (λv s' C x a' w' hk=>by cases hk));rcases BY hE (ops.drop (lim+1)) (lim+1) { D with nb:=D.nb+8*ops.length } [] (by simp;omega) M with⟨recs2,sf2,trf2,q1,q2,q3,_,q5,q6⟩ | ⟨p,po,recs2,sf2,sp2,trf2,v,wr,rp,_,_,_,_,_,_,q2,_⟩
  case inr=>cases q2
  split at q2
  case h_2=>cases q2
  rename_i T;have hl2:recs2.length=ops.length - (lim+1):=by rw[q1];simp
  have F2:=EY (P:=P) (n:=n) (nb0:=D.nb) (kk:=lim+1) (ops:=ops) (recs:=recs2) (s0:={ D with nb:=D.nb+8*ops.length }) (trf:=trf2) L R (by omega) rfl T q5 (λj o r ho hr=>q6 j o r (by rw[lK];exact ho) hr);have hlt:lim<d.size:=by omega
  have t:Dn (d.setIfInBounds lim true)=λj=>if j=lim then true else Dn d j:=by
   funext j;exact zW hlt j
  have Z:∀j,lim<j->j<ops.length->Dn (d.setIfInBounds lim true) j=false:=by
   intro j u M;rw[t];simp only[show¬j=lim by omega,aF];cases H:Dn d j with
   | false=>rfl
   | true=>
    have:=g j lim (qE q j u (by omega)) _ X H;rw[hn1]at this;cases this
  have hfin:∀O a3 w3,Inv n ι0 w0 O ((List.replicate (lim+1) ql++(recs2++List.replicate (ops.length - (lim+1+recs2.length)) ql)).foldl St.put { D with nb:=D.nb+8*ops.length }) a3 w3->Q .normal a3 w3:=by
   intro O a3 w3 Y;rw[Hu,Hu,rk,rk]at Y;exact⟨rfl,sf2,O,Y.eqv q3.symm,q2⟩
  have N:∀j,j<lim+1->Dn (d.setIfInBounds lim true) j=true:=by
   intro j hj;rw[t];by_cases h:j=lim
   ·simp[h]
   ·simp only[h,aF];exact J j (by omega)
  have hI6:Inv n ι0 w0 S (appD 0 (List.replicate (lim+1) ql++(recs2++List.replicate (ops.length - (lim+1+recs2.length)) ql)) (Dn (d.setIfInBounds lim true)) { D with nb:=D.nb+8*ops.length }) a2 w2:=by
   rw[pW,oq,nT,xc recs2 _ _ _ λj hj=>Z _ (by omega) (by omega)];exact hI4.grow _
  have hc2:((List.range ops.length).filter λj=>!Dn (d.setIfInBounds lim true) j).length<=fuel:=by
   have:((List.range ops.length).filter λj=>!Dn (d.setIfInBounds lim true) j).length<((List.range ops.length).filter λj=>!Dn d j).length:=by
    rw[t];have hsub:((List.range ops.length).filter λj=>!(if j=lim then true else Dn d j))=((List.range ops.length).filter λj=>!Dn d j).filter λj=>decide (j≠lim):=by
     rw[Ic];congr 1;funext j;by_cases hji:j=lim<;>simp[hji]
    rw[hsub];refine Bh.2 ⟨lim,by simp[l,hn1],by simp⟩
   omega
  exact D4 F2 (ι0:=ι0) (w0:=w0) (kk:=lim+1) (λj u M=>⟨u,by omega⟩) hfin fuel _ S a2 w2 (by simpa using hs1) N W hI6 (λi hi hni b U hb2'=>hI4.fresh b (by omega)) hc2
 ·have u:=kh ops 0 L j o' e ho he hb;refine G _ ?_;rcases aJ j kk with h | h
  ·omega
  ·rw[B j h]at H;cases H
def RE{α:Type}{E:List Ent}(a:∀x∈E,fC P x){n:Nat}{ops:List Oper}{s:St}{k:Ex->St->Option α}{z:α}(h:Ue P E n ops s k=some z)(id:Nat):
  SemC P n (.region id ops.toArray true) s λex s'=>k ex s'=some z:=by
 unfold Ue at h;split at h
 ·exact Jy a h id
 ·exact Nc a h id
end Go.Abs
