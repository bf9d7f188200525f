
import Derived.Test.YtibehcmomiplnabGreatDoorAbsV
set_option linter.unusedSimpArgs false
set_option linter.unusedVariables false
set_option linter.defProp false
namespace Go.Abs
variable {P:Program}
def si{f:Nat->Bool}:∀{r i:Nat},wb f r i=true->∀j,i<=j->j<i+r->f j=true
 | 0,_,_,j,_,_=>by omega
 | r+1,i,h,j,c,b=>by
  simp only[wb,aD]at h;by_cases a:j=i
  ·rw[a];exact h.1
  ·exact si h.2 j (by omega) (by omega)
def HD{n:Nat}{ops:Array Oper}{r i:Nat}{a:Array Bool}(h:xl n ops (r+1) i a=true):
  ∃o x,ops[i]?=some o/\o.op=.move x/\o.guard=none/\xn n o.dst=true/\Region.free .any ops a i=true/\(Region.ready .any ops a).contains i=true/\xl n ops r (i+1) (a.setIfInBounds i true)=true:=by
 simp only[xl,aD]at h;obtain⟨b,k,f,e⟩:=h;split at b
 ·rename_i o d;simp only[aD]at b;obtain⟨c,g,j⟩:=b;split at c
  ·rename_i x hx;exact⟨o,x,d,hx,by simpa using g,j,k,f,e⟩
  ·cases c
 ·cases b
def LI{α:Type}{n:Nat}{ops:List Oper}(f:Region.noSelect ops.toArray=true){ι0:Inj}{w0:Base}{ι:Inj}{w:World}{Q:Exit->Act->World->Prop}(C:∀c a w,¬Q (.panic c) a w){fuel:Nat}{k:St->Option α}{z:α}:
  ∀(r i:Nat) (b:Array Bool) (s:St) (a:Act),xl n ops.toArray r i b=true->b.size=ops.length->i+r<=ops.length->(∀j,j<i->Dn b j=true)->(∀j,i<=j->Dn b j=false)->Inv n ι0 w0 ι s a w->
   runM ((ops.drop i).take r) s k=some z->
   (∀(s':St) (m:Act) (d:Array Bool),k s'=some z->Inv n ι0 w0 ι s' m w->s'.nb=s.nb->d.size=ops.length->(∀j,j<i+r->Dn d j=true)->(∀j,i+r<=j->Dn d j=false)->wpAny P .any ops.toArray Q fuel d m w)->
   wpAny P .any ops.toArray Q (fuel+r) b a w
 | 0,i,b,s,a,_,hs,_,y,p,e,h,B=>by
  simp only[oq,runM]at h;exact B s a b h e rfl hs (by simpa using y) (by simpa using p)
 | r+1,i,b,s,a,F,hs,I,y,p,e,h,B=>by
  obtain⟨o,x,D,hx,O,T,E,K,t⟩:=HD F;have ho':ops[i]?=some o:=by simpa using D
  have g:(ops.drop i).take (r+1)=o::(ops.drop (i+1)).take r:=by
   have hi:i<ops.length:=by omega
   rw[ba hi]at ho';simp only[aw]at ho';rw[qj hi,ox,ho']
  rw[g]at h;simp only[runM,hx]at h;obtain⟨u,S,h⟩:=ax h;have G:=bL e.tmps S;have hy:Yields P ops.toArray o (a.eval x) a:=.inl ⟨by simp[Region.wanted,O],λw=>by simp[execOp,hx]⟩;have hI':Inv n ι0 w0 ι (s.app o.dst (some u) [] s.nb) (a.put o.dst (a.eval x)) w:=
   ⟨by rw[o9];exact e.size,by rw[kJ];exact e.defers,e.tmps.app e.size T (λv q=>by cases q;exact G),e.mem,e.ext,e.new,e.fr,e.low,e.fz,e.gl⟩
  refine wpAny_take (fuel:=fuel+r) D f E K (λc a w h=>absurd h (C c _ w)) hy ?_;have l:i<b.size:=by omega
  refine LI f C r (i+1) _ _ _ t (by simpa using hs) (by omega) (λj A=>?_) (λj A=>?_) hI' h λs' m d R L H J N M=>B s' m d R L H J (λj A=>N j (by omega)) (λj A=>M j (by omega))
  ·rw[CJ l];split
   ·rfl
   ·exact y j (by omega)
  ·rw[CJ l,ab (by omega)];exact p j (by omega)
def sT:Rec:=⟨none,none,[],[]⟩
def A5(s:St):s.put sT=s:=rfl
def rr:∀(m i:Nat) (l:List Rec) (D:Nat->Bool) (s:St),appD i (List.replicate m sT++l) D s=appD (i+m) l D s
 | 0,i,l,D,s=>by simp
 | m+1,i,l,D,s=>by
  rw[vA,fK];simp only[appD,A5,ite_self];rw[rr m (i+1) l D s,show i+1+m=i+(m+1)by omega]
def pQ:∀(m i:Nat) (D:Nat->Bool) (s:St),appD i (List.replicate m sT) D s=s
 | 0,i,D,s=>rfl
 | m+1,i,D,s=>by
  rw[vA];simp only[appD,A5,ite_self];exact pQ m (i+1) D s
def pU:∀(l m:List Rec) (i:Nat) (D:Nat->Bool) (s:St),appD i (l++m) D s=appD (i+l.length) m D (appD i l D s)
 | [],m,i,D,s=>by simp[appD]
 | r::l,m,i,D,s=>by
  simp only[fK,appD,aI];rw[pU l m (i+1)];rw[show i+1+l.length=i+(l.length+1)by omega]
def Bh:∀(l:List Rec) (i:Nat) (D:Nat->Bool) (s:St),(∀j,j<l.length->D (i+j)=false)->appD i l D s=s
 | [],i,D,s,_=>rfl
 | r::l,i,D,s,h=>by
  have a:=h 0 (by simp);simp only[dj]at a;simp only[appD,a,bI,aF];exact Bh l (i+1) D s λj b=>by have:=h (j+1) (by simpa using b);rwa[show i+(j+1)=i+1+j by omega]at this
def tt:∀(m:Nat) (s:St),(List.replicate m sT).foldl St.put s=s
 | 0,_=>rfl
 | m+1,s=>by rw[vA,xW,A5];exact tt m s
def HH{n nb0 kk:Nat}{ops:List Oper}{recs:List Rec}{s0:St}{trf:List TE}(H:uk 0 ops=true)(s:wR ops.toArray (me ops []) 0 [] ops=true)
  (I:kk+recs.length<=ops.length) (v:s0.nb=nb0+8*ops.length) (B:sX (me ops []) (trf.filter λx=>!(x.rd.isEmpty&&x.ws.isEmpty))=true)
  (K:∀j r,recs[j]?=some r->(⟨kk+j,r.rd,keys r.wr⟩:TE)∈trf\/(r.rd=[]/\r.wr=[]))
  (R:∀(j:Nat) (o:Oper) (r:Rec),ops[kk+j]?=some o->recs[j]?=some r->r.dst=o.dst/\xk P n nb0 ops (kk+j) o r ((recs.take j).foldl St.put s0)):
  DrawFacts P n nb0 ops (List.replicate kk sT++(recs++List.replicate (ops.length - (kk+recs.length)) sT)) s0 (λj=>kk<=j/\j<kk+recs.length):=by
 have a:=sP ops ops [] (by simp) (λj i q=>by simp[getN]at q);have b:∀(j:Nat) (r:Rec),(List.replicate kk sT++(recs++List.replicate (ops.length - (kk+recs.length)) sT))[j]?=some r->(r=sT/\¬(kk<=j/\j<kk+recs.length))\/(kk<=j/\j<kk+recs.length/\recs[j - kk]?=some r):=by
  intro j r d;rcases aN j kk with h | h
  ·rw[qp (by simpa using h)]at d;exact .inl ⟨(List.mem_replicate.1 (fR d)).2,by omega⟩
  ·rw[s9 (by simpa using h)]at d;simp only[List.length_replicate]at d;rcases aN (j - kk) recs.length with k | k
   ·rw[qp k]at d;exact .inr ⟨h,by omega,d⟩
   ·rw[s9 k]at d;exact .inl ⟨(List.mem_replicate.1 (fR d)).2,by omega⟩
 refine⟨by simp;omega,v,λj o r A O=>?_,λj o e A S q=>?_,λi j x y c hx hy=>?_,λi j x y c hx hy=>?_⟩
 ·rcases b j r O with⟨rfl,u⟩ | ⟨T,k,p⟩
  ·exact⟨λt C=>(by cases C),λM=>absurd M u⟩
  ·obtain⟨U,J⟩:=R (j - kk) o r (by rw[show kk+(j - kk)=j by omega];exact A) p;rw[show kk+(j - kk)=j by omega]at J;refine⟨λt C=>U▸C,λ_=>J.eqv ?_⟩;rw[rr,pU];have L:=uc recs (0+kk) (j - kk) s0;have Q:appD (0+kk) recs (λm=>decide (m<0+kk+(j - kk))) s0=appD (0+kk) recs (λm=>decide (m<j)) s0:=by rw[show 0+kk+(j - kk)=j by omega]
   rw[Q]at L;rw[pQ];exact L
 ·have:=lz ops 0 H j o e A S q;omega
 ·have:=pw (masks:=me ops []) ops [] s i j x y (by simpa using c) (by simpa using hx) hy;simp only[bU,dw]at this;exact this.imp (a j i) λh=>h
 ·rcases b i x hx with⟨rfl,_⟩ | ⟨T,k,p⟩
  ·exact .inr (by simp[sT,keys])
  ·rcases b j y hy with⟨rfl,_⟩ | ⟨V,W,N⟩
   ·exact .inr (by simp[sT,keys])
   ·have hx':=K (i - kk) x p;have hy':=K (j - kk) y N;rw[show kk+(i - kk)=i by omega]at hx';rw[show kk+(j - kk)=j by omega]at hy';rcases hx' with G | ⟨z,w⟩
    ·rcases hy' with l | ⟨D,E⟩
     ·by_cases f:(x.rd=[]/\x.wr=[])
      ·exact .inr (by simp[f.1,f.2,keys])
      ·by_cases g:(y.rd=[]/\y.wr=[])
       ·exact .inr (by simp[g.1,g.2,keys])
       ·have m1:(⟨i,x.rd,keys x.wr⟩:TE)∈trf.filter λx=>!(x.rd.isEmpty&&x.ws.isEmpty):=by
         refine na.2 ⟨G,?_⟩;simp only[keys,ko,FL,Fe];rcases KD (x.rd=[])with h | h
         ·exact .inr (by simpa usingλF=>f ⟨h,F⟩)
         ·exact .inl h
        have m2:(⟨j,y.rd,keys y.wr⟩:TE)∈trf.filter λx=>!(x.rd.isEmpty&&x.ws.isEmpty):=by
         refine na.2 ⟨l,?_⟩;simp only[keys,ko,FL,Fe];rcases KD (y.rd=[])with h | h
         ·exact .inr (by simpa usingλF=>g ⟨h,F⟩)
         ·exact .inl h
        have:=G1 (tw B _ m1 _ m2 c) c;exact this.imp (a j i) λh=>h
     ·exact .inr (by simp[D,E,keys])
    ·exact .inr (by simp[z,w,keys])
def Inv.grow{n:Nat}{ι0 ι:Inj}{w0:Base}{s:St}{a:Act}{w:World}(h:Inv n ι0 w0 ι s a w)(m:Nat):Inv n ι0 w0 ι { s with nb:=s.nb+m } a w:=
 ⟨h.size,h.defers,h.tmps,⟨h.mem.inj,λb r C=>by have:=h.mem.low b r C;simp only;omega,h.mem.dom,h.mem.blk⟩,h.ext,h.new,h.fr,h.low,h.fz,h.gl⟩
def HJ{ops:List Oper}(h:WW ops=true):Region.noSelect ops.toArray=true:=by
 unfold WW at h;unfold Region.noSelect;rw[List.all_toArray,cb];rw[cb]at h;intro o a;have:=h o a;cases b:o.op<;>simp_all
def Qk{α:Type}{E:List Ent}(hE:∀x∈E,gV P x){n:Nat}{ops:List Oper}{lim:Nat}{s:St}{k:Ex->St->Option α}{z:α}(h:QN P E n ops lim s k=some z)(id:Nat):
  SemC P n (.region id ops.toArray true) s λex s'=>k ex s'=some z:=by
 intro ι0 w0 ι a w hI;unfold QN at h;simp only at h;generalize hkk:Qc (getN (me ops []) lim) lim lim 0=kk at h;split at h
 case h_2=>cases h
 rename_i hok;simp only[aD,J0,YH]at hok;obtain⟨⟨O,hb2,hb3⟩,hmix,l,K,G,hup,t⟩:=hok;have l:lim<ops.length:=aR l;have K:=aR K;have g:=sP ops ops [] (by simp) (λj i hb=>by simp[getN]at hb);have hI1:Inv n ι0 w0 ι { s with nb:=s.nb+8*ops.length } a { w with drawn:=w.drawn+1 }:=(hI.drawn (w.drawn+1)).grow _;let Q:Exit->Act->World->Prop:=λe a w=>e=.normal/\∃s' H,Inv n ι0 w0 H s' a w/\k .normal s'=some z;refine wh (λe a w (hq:Q e a w)=>?_) (wp_region_any (Q:=Q) hmix ?_)
 ·obtain⟨rfl,s',H,u,M⟩:=hq;exact⟨.normal,s',H,rfl,u,M⟩
 have hD0:∀i,Dn (Array.replicate ops.length false) i=false:=by
  intro i;unfold Dn;simp only[um,aaL];split<;>rfl
 have hsz:ops.toArray.size=(ops.length - kk)+kk:=by simp;omega
 rw[hsz,show Array.replicate ((ops.length - kk)+kk) false=Array.replicate ops.length false by rw[Nat.sub_add_cancel (by omega)]];refine LI (HJ hb3) (λc a w hq=>by cases hq.1) kk 0 _ _ a G (by simp) (by omega) (λj Y=>by omega) (λj _=>hD0 j) hI1 (by rw[cM];exact h) λs0 a0 f h hI0 J hs0 B A=>?_;simp only[dw]at B A;simp only at J;rcases Ft hE ((ops.take lim).drop kk) kk s0 [] (by simp;omega) h with⟨recs,sf,trf,g1,C,g3,_,g5,g6⟩ | ⟨p,po,recs,sf,sp,trf,v,wr,rp,_,_,_,_,_,_,C,_⟩
 case inr=>cases C
 split at C
 case h_2=>cases C
 rename_i htr;have hl1:recs.length=lim - kk:=by rw[g1];simp;omega
 have X:∀j,j<lim - kk->((ops.take lim).drop kk)[j]?=ops[kk+j]?:=λj Y=>by
  rw[mQ,IB,ae (by omega)]
 have F:=HH (P:=P) (n:=n) (nb0:=s.nb) (kk:=kk) (ops:=ops) (recs:=recs) (s0:=s0) (trf:=trf) O hb2 (by omega) J htr g5 (λj o r ho hr=>by
  have Y:j<recs.length:=by
   rcases aN j recs.length with h' | h'
   ·exact h'
   ·rw[gS h']at hr;cases hr
  exact g6 j o r (by rw[X j (by omega)];exact ho) hr)
 split at C
 case h_2=>cases C
 rename_i o hoa;split at C
 case h_2=>cases C
 rename_i hga;have hst0:appD 0 (List.replicate kk sT++(recs++List.replicate (ops.length - (kk+recs.length)) sT)) (Dn f) s0=s0:=by
  rw[rr,pU,pQ];exact Bh recs _ _ _ λj _=>A _ (by omega)
 have S:∀m,((List.range m).filter λi=>!Dn f i).length<=m - kk:=by
  intro m
  induction m with
  | zero=>simp
  | succ m ih=>
   rw[List.range_succ,RJ,aV];rcases aN m kk with hm | hm
   ·have:([m].filter λi=>!Dn f i)=[]:=by simp[B m hm]
    rw[this,bU];omega
   ·have:([m].filter λi=>!Dn f i).length<=1:=by simpa using List.length_filter_le (λi=>!Dn f i) [m]
    omega
 refine UF F (lim:=lim) (kk:=kk) l (λj u M=>⟨⟨u,by omega⟩,g lim j (si hup j u (by omega))⟩) (λj u M=>g j lim (si t j u (by omega))) (λfuel d ι1 a1 w1 hs1 I hn1 T hdn1 hI2 hc1=>?_) _ f ι a0 _ hs0 B (λj o' e ho D he hb=>?_) (A lim K) (by rw[hst0];exact hI0) (λi hi hni b hb1' R=>hI.fresh b (by omega)) (S _)
 ·
  have hD1:appD 0 (List.replicate kk sT++(recs++List.replicate (ops.length - (kk+recs.length)) sT)) (Dn d) s0=recs.foldl St.put s0:=by
   rw[rr,pU,pQ];exact DN recs _ _ _ λj Y=>I _ (by omega)
  rw[hD1]at hI2;have W:=hI2.eqv g3.symm;have hoa':ops.toArray[lim]?=some o:=by simpa using hoa
  unfold wpOp;rw[hoa'];simp only;rw[ae (by simp[Region.wanted,hga])];refine .inl (Eo hE W (λb hb=>W.fresh b hb) (bi _) C (λy V a2 w2 M hI4=>?_) (λv s' H x a' w' hk=>by cases hk));rcases Ft hE (ops.drop (lim+1)) (lim+1) { y with nb:=y.nb+8*ops.length } [] (by simp;omega) M with⟨recs2,sf2,trf2,q1,q2,q3,_,q5,q6⟩ | ⟨p,po,recs2,sf2,sp2,trf2,v,wr,rp,_,_,_,_,_,_,q2,_⟩
  case inr=>cases q2
  split at q2
  case h_2=>cases q2
  rename_i U;have hl2:recs2.length=ops.length - (lim+1):=by rw[q1];simp
  have F2:=HH (P:=P) (n:=n) (nb0:=y.nb) (kk:=lim+1) (ops:=ops) (recs:=recs2) (s0:={ y with nb:=y.nb+8*ops.length }) (trf:=trf2) O hb2 (by omega) rfl U q5 (λj o r ho hr=>q6 j o r (by rw[mQ];exact ho) hr);have hlt:lim<d.size:=by omega
  have q:Dn (d.setIfInBounds lim true)=λj=>if j=lim then true else Dn d j:=by
   funext j;exact CJ hlt j
  have hund:∀j,lim<j->j<ops.length->Dn (d.setIfInBounds lim true) j=false:=by
   intro j u M;rw[q];simp only[show¬j=lim by omega,aF];cases D:Dn d j with
   | false=>rfl
   | true=>
    have:=g j lim (si t j u (by omega)) _ T D;rw[hn1]at this;cases this
  have Z:∀N a3 w3,Inv n ι0 w0 N ((List.replicate (lim+1) sT++(recs2++List.replicate (ops.length - (lim+1+recs2.length)) sT)).foldl St.put { y with nb:=y.nb+8*ops.length }) a3 w3->Q .normal a3 w3:=by
   intro N a3 w3 hI5;rw[K6,K6,tt,tt]at hI5;exact⟨rfl,sf2,N,hI5.eqv q3.symm,q2⟩
  have L:∀j,j<lim+1->Dn (d.setIfInBounds lim true) j=true:=by
   intro j Y;rw[q];by_cases h:j=lim
   ·simp[h]
   ·simp only[h,aF];exact I j (by omega)
  have hI6:Inv n ι0 w0 V (appD 0 (List.replicate (lim+1) sT++(recs2++List.replicate (ops.length - (lim+1+recs2.length)) sT)) (Dn (d.setIfInBounds lim true)) { y with nb:=y.nb+8*ops.length }) a2 w2:=by
   rw[rr,pU,pQ,Bh recs2 _ _ _ λj Y=>hund _ (by omega) (by omega)];exact hI4.grow _
  have hc2:((List.range ops.length).filter λj=>!Dn (d.setIfInBounds lim true) j).length<=fuel:=by
   have:((List.range ops.length).filter λj=>!Dn (d.setIfInBounds lim true) j).length<((List.range ops.length).filter λj=>!Dn d j).length:=by
    rw[q];have hsub:((List.range ops.length).filter λj=>!(if j=lim then true else Dn d j))=((List.range ops.length).filter λj=>!Dn d j).filter λj=>decide (j≠lim):=by
     rw[KW];congr 1;funext j;by_cases hji:j=lim<;>simp[hji]
    rw[hsub];refine Es.2 ⟨lim,by simp[l,hn1],by simp⟩
   omega
  exact FZ F2 (ι0:=ι0) (w0:=w0) (kk:=lim+1) (λj u M=>⟨u,by omega⟩) Z fuel _ V a2 w2 (by simpa using hs1) L hdn1 hI6 (λi hi hni b hb1' R=>hI4.fresh b (by omega)) hc2
 ·have u:=lz ops 0 O j o' e ho he hb;refine B _ ?_;rcases aN j kk with h | h
  ·omega
  ·rw[A j h]at D;cases D
def SQ{α:Type}{E:List Ent}(a:∀x∈E,gV P x){n:Nat}{ops:List Oper}{s:St}{k:Ex->St->Option α}{z:α}(h:Yd P E n ops s k=some z)(id:Nat):
  SemC P n (.region id ops.toArray true) s λex s'=>k ex s'=some z:=by
 unfold Yd at h;split at h
 ·exact LX a h id
 ·exact Qk a h id
end Go.Abs
