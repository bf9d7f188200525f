
import Derived.Test.YtadejcglcffgbabGreatDoorAbsV
set_option linter.unusedSimpArgs false
set_option linter.unusedVariables false
set_option linter.defProp false
namespace Go.Abs
variable {P:Program}
def mJ{f:Nat->Bool}:∀{r i:Nat},pU f r i=true->∀j,i<=j->j<i+r->f j=true
 | 0,_,_,j,_,_=>by omega
 | r+1,i,h,j,c,b=>by
  simp only[pU,aC]at h;by_cases a:j=i
  ·rw[a];exact h.1
  ·exact mJ h.2 j (by omega) (by omega)
def xP{n:Nat}{ops:Array Oper}{r i:Nat}{a:Array Bool}(h:qA n ops (r+1) i a=true):
  ∃o x,ops[i]?=some o/\o.op=.move x/\o.guard=none/\qu n o.dst=true/\Region.free .any ops a i=true/\(Region.ready .any ops a).contains i=true/\qA n ops r (i+1) (a.setIfInBounds i true)=true:=by
 simp only[qA,aC]at h;obtain⟨b,f,d,e⟩:=h;split at b
 ·rename_i o j;simp only[aC]at b;obtain⟨c,k,g⟩:=b;split at c
  ·rename_i x hx;exact⟨o,x,j,hx,by simpa using k,g,f,d,e⟩
  ·cases c
 ·cases b
def Bj{α:Type}{n:Nat}{ops:List Oper}(f:Region.noSelect ops.toArray=true){ι0:Inj}{w0:Base}{ι:Inj}{w:World}{Q:Exit->Act->World->Prop}(D:∀c a w,¬Q (.panic c) a w){fuel:Nat}{k:St->Option α}{z:α}:
  ∀(r i:Nat) (b:Array Bool) (s:St) (a:Act),qA n ops.toArray r i b=true->b.size=ops.length->i+r<=ops.length->(∀j,j<i->Dn b j=true)->(∀j,i<=j->Dn b j=false)->Inv n ι0 w0 ι s a w->
   runM ((ops.drop i).take r) s k=some z->
   (∀(s':St) (m:Act) (d:Array Bool),k s'=some z->Inv n ι0 w0 ι s' m w->s'.nb=s.nb->d.size=ops.length->(∀j,j<i+r->Dn d j=true)->(∀j,i+r<=j->Dn d j=false)->wpAny P .any ops.toArray Q fuel d m w)->
   wpAny P .any ops.toArray Q (fuel+r) b a w
 | 0,i,b,s,a,_,hs,_,t,y,e,h,q=>by
  simp only[nE,runM]at h;exact q s a b h e rfl hs (by simpa using t) (by simpa using y)
 | r+1,i,b,s,a,F,hs,R,t,y,e,h,q=>by
  obtain⟨o,x,C,hx,K,G,J,L,B⟩:=xP F;have ho':ops[i]?=some o:=by simpa using C
  have g:(ops.drop i).take (r+1)=o::(ops.drop (i+1)).take r:=by
   have hi:i<ops.length:=by omega
   rw[bj hi]at ho';simp only[aq]at ho';rw[pF hi,qi,ho']
  rw[g]at h;simp only[runM,hx]at h;obtain⟨u,M,h⟩:=av h;have N:=aZ e.tmps M;have hy:Yields P ops.toArray o (a.eval x) a:=.inl ⟨by simp[Region.wanted,K],λw=>by simp[execOp,hx]⟩;have hI':Inv n ι0 w0 ι (s.app o.dst (some u) [] s.nb) (a.put o.dst (a.eval x)) w:=
   ⟨by rw[lk];exact e.size,by rw[il];exact e.defers,e.tmps.app e.size G (λv p=>by cases p;exact N),e.mem,e.ext,e.new,e.fr,e.low,e.fz,e.gl⟩
  refine wpAny_take (fuel:=fuel+r) C f J L (λc a w h=>absurd h (D c _ w)) hy ?_;have l:i<b.size:=by omega
  refine Bj f D r (i+1) _ _ _ B (by simpa using hs) (by omega) (λj A=>?_) (λj A=>?_) hI' h λs' m d I E O H T S=>q s' m d I E O H (λj A=>T j (by omega)) (λj A=>S j (by omega))
  ·rw[uI l];split
   ·rfl
   ·exact t j (by omega)
  ·rw[uI l,ab (by omega)];exact y j (by omega)
def mc:Rec:=⟨none,none,[],[]⟩
def rR(s:St):s.put mc=s:=rfl
def lR:∀(m i:Nat) (l:List Rec) (D:Nat->Bool) (s:St),appD i (List.replicate m mc++l) D s=appD (i+m) l D s
 | 0,i,l,D,s=>by simp
 | m+1,i,l,D,s=>by
  rw[qx,kL];simp only[appD,rR,ite_self];rw[lR m (i+1) l D s,show i+1+m=i+(m+1)by omega]
def lc:∀(m i:Nat) (D:Nat->Bool) (s:St),appD i (List.replicate m mc) D s=s
 | 0,i,D,s=>rfl
 | m+1,i,D,s=>by
  rw[qx];simp only[appD,rR,ite_self];exact lc m (i+1) D s
def kG:∀(l m:List Rec) (i:Nat) (D:Nat->Bool) (s:St),appD i (l++m) D s=appD (i+l.length) m D (appD i l D s)
 | [],m,i,D,s=>by simp[appD]
 | r::l,m,i,D,s=>by
  simp only[kL,appD,cU];rw[kG l m (i+1)];rw[show i+1+l.length=i+(l.length+1)by omega]
def tj:∀(l:List Rec) (i:Nat) (D:Nat->Bool) (s:St),(∀j,j<l.length->D (i+j)=false)->appD i l D s=s
 | [],i,D,s,_=>rfl
 | r::l,i,D,s,h=>by
  have a:=h 0 (by simp);simp only[eJ]at a;simp only[appD,a,cj,aG];exact tj l (i+1) D s λj b=>by have:=h (j+1) (by simpa using b);rwa[show i+(j+1)=i+1+j by omega]at this
def nl:∀(m:Nat) (s:St),(List.replicate m mc).foldl St.put s=s
 | 0,_=>rfl
 | m+1,s=>by rw[qx,qM,rR];exact nl m s
def xp{n nb0 kk:Nat}{ops:List Oper}{recs:List Rec}{s0:St}{trf:List TE}(C:np 0 ops=true)(z:qe ops.toArray (iS ops []) 0 [] ops=true)
  (K:kk+recs.length<=ops.length) (l:s0.nb=nb0+8*ops.length) (p:mg (iS ops []) (trf.filter λx=>!(x.rd.isEmpty&&x.ws.isEmpty))=true)
  (I:∀j r,recs[j]?=some r->(⟨kk+j,r.rd,keys r.wr⟩:TE)∈trf\/(r.rd=[]/\r.wr=[]))
  (Q:∀(j:Nat) (o:Oper) (r:Rec),ops[kk+j]?=some o->recs[j]?=some r->r.dst=o.dst/\qC P n nb0 ops (kk+j) o r ((recs.take j).foldl St.put s0)):
  DrawFacts P n nb0 ops (List.replicate kk mc++(recs++List.replicate (ops.length - (kk+recs.length)) mc)) s0 (λj=>kk<=j/\j<kk+recs.length):=by
 have b:=mG ops ops [] (by simp) (λj i F=>by simp[getN]at F);have a:∀(j:Nat) (r:Rec),(List.replicate kk mc++(recs++List.replicate (ops.length - (kk+recs.length)) mc))[j]?=some r->(r=mc/\¬(kk<=j/\j<kk+recs.length))\/(kk<=j/\j<kk+recs.length/\recs[j - kk]?=some r):=by
  intro j r d;rcases aI j kk with h | h
  ·rw[lb (by simpa using h)]at d;exact .inl ⟨(List.mem_replicate.1 (dY d)).2,by omega⟩
  ·rw[mM (by simpa using h)]at d;simp only[List.length_replicate]at d;rcases aI (j - kk) recs.length with k | k
   ·rw[lb k]at d;exact .inr ⟨h,by omega,d⟩
   ·rw[mM k]at d;exact .inl ⟨(List.mem_replicate.1 (dY d)).2,by omega⟩
 refine⟨by simp;omega,l,λj o r u O=>?_,λj o e u T F=>?_,λi j x y c hx hy=>?_,λi j x y c hx hy=>?_⟩
 ·rcases a j r O with⟨rfl,H⟩ | ⟨U,k,E⟩
  ·exact⟨λt v=>(by cases v),λN=>absurd N H⟩
  ·obtain⟨S,L⟩:=Q (j - kk) o r (by rw[show kk+(j - kk)=j by omega];exact u) E;rw[show kk+(j - kk)=j by omega]at L;refine⟨λt v=>S▸v,λ_=>L.eqv ?_⟩;rw[lR,kG];have J:=mX recs (0+kk) (j - kk) s0;have M:appD (0+kk) recs (λm=>decide (m<0+kk+(j - kk))) s0=appD (0+kk) recs (λm=>decide (m<j)) s0:=by rw[show 0+kk+(j - kk)=j by omega]
   rw[M]at J;rw[lc];exact J
 ·have:=gV ops 0 C j o e u T F;omega
 ·have:=kw (masks:=iS ops []) ops [] z i j x y (by simpa using c) (by simpa using hx) hy;simp only[iN,bV]at this;exact this.imp (b j i) λh=>h
 ·rcases a i x hx with⟨rfl,_⟩ | ⟨U,k,E⟩
  ·exact .inr (by simp[mc,keys])
  ·rcases a j y hy with⟨rfl,_⟩ | ⟨V,W,R⟩
   ·exact .inr (by simp[mc,keys])
   ·have hx':=I (i - kk) x E;have hy':=I (j - kk) y R;rw[show kk+(i - kk)=i by omega]at hx';rw[show kk+(j - kk)=j by omega]at hy';rcases hx' with D | ⟨A,s⟩
    ·rcases hy' with q | ⟨G,w⟩
     ·by_cases f:(x.rd=[]/\x.wr=[])
      ·exact .inr (by simp[f.1,f.2,keys])
      ·by_cases g:(y.rd=[]/\y.wr=[])
       ·exact .inr (by simp[g.1,g.2,keys])
       ·have m1:(⟨i,x.rd,keys x.wr⟩:TE)∈trf.filter λx=>!(x.rd.isEmpty&&x.ws.isEmpty):=by
         refine jm.2 ⟨D,?_⟩;simp only[keys,jd,CL,BB];rcases By (x.rd=[])with h | h
         ·exact .inr (by simpa usingλB=>f ⟨h,B⟩)
         ·exact .inl h
        have m2:(⟨j,y.rd,keys y.wr⟩:TE)∈trf.filter λx=>!(x.rd.isEmpty&&x.ws.isEmpty):=by
         refine jm.2 ⟨q,?_⟩;simp only[keys,jd,CL,BB];rcases By (y.rd=[])with h | h
         ·exact .inr (by simpa usingλB=>g ⟨h,B⟩)
         ·exact .inl h
        have:=xO (nh p _ m1 _ m2 c) c;exact this.imp (b j i) λh=>h
     ·exact .inr (by simp[G,w,keys])
    ·exact .inr (by simp[A,s,keys])
def Inv.grow{n:Nat}{ι0 ι:Inj}{w0:Base}{s:St}{a:Act}{w:World}(h:Inv n ι0 w0 ι s a w)(m:Nat):Inv n ι0 w0 ι { s with nb:=s.nb+m } a w:=
 ⟨h.size,h.defers,h.tmps,⟨h.mem.inj,λb r A=>by have:=h.mem.low b r A;simp only;omega,h.mem.dom,h.mem.blk⟩,h.ext,h.new,h.fr,h.low,h.fz,h.gl⟩
def yD{ops:List Oper}(h:JQ ops=true):Region.noSelect ops.toArray=true:=by
 unfold JQ at h;unfold Region.noSelect;rw[List.all_toArray,ch];rw[ch]at h;intro o b;have:=h o b;cases a:o.op<;>simp_all
def Ge{α:Type}{E:List Ent}(hE:∀x∈E,ib P x){n:Nat}{ops:List Oper}{lim:Nat}{s:St}{k:Ex->St->Option α}{z:α}(h:Ea P E n ops lim s k=some z)(id:Nat):
  SemC P n (.region id ops.toArray true) s λex s'=>k ex s'=some z:=by
 intro ι0 w0 ι a w hI;unfold Ea at h;simp only at h;generalize hkk:Em (getN (iS ops []) lim) lim lim 0=kk at h;split at h
 case h_2=>cases h
 rename_i W;simp only[aC,AO,NI]at W;obtain⟨⟨N,U,hb3⟩,X,l,O,y,hup,u⟩:=W;have l:lim<ops.length:=aJ l;have O:=aJ O;have g:=mG ops ops [] (by simp) (λj i hb=>by simp[getN]at hb);have hI1:Inv n ι0 w0 ι { s with nb:=s.nb+8*ops.length } a { w with drawn:=w.drawn+1 }:=(hI.drawn (w.drawn+1)).grow _;let Q:Exit->Act->World->Prop:=λe a w=>e=.normal/\∃s' D,Inv n ι0 w0 D s' a w/\k .normal s'=some z;refine sg (λe a w (hq:Q e a w)=>?_) (wp_region_any (Q:=Q) X ?_)
 ·obtain⟨rfl,s',D,t,M⟩:=hq;exact⟨.normal,s',D,rfl,t,M⟩
 have hD0:∀i,Dn (Array.replicate ops.length false) i=false:=by
  intro i;unfold Dn;simp only[nD,Na];split<;>rfl
 have hsz:ops.toArray.size=(ops.length - kk)+kk:=by simp;omega
 rw[hsz,show Array.replicate ((ops.length - kk)+kk) false=Array.replicate ops.length false by rw[Nat.sub_add_cancel (by omega)]];refine Bj (yD hb3) (λc a w hq=>by cases hq.1) kk 0 _ _ a y (by simp) (by omega) (λj hj=>by omega) (λj _=>hD0 j) hI1 (by rw[gk];exact h) λs0 a0 f h hI0 I hs0 G B=>?_;simp only[bV]at G B;simp only at I;rcases wH hE ((ops.take lim).drop kk) kk s0 [] (by simp;omega) h with⟨recs,sf,trf,g1,A,g3,_,g5,g6⟩ | ⟨p,po,recs,sf,sp,trf,v,wr,rp,_,_,_,_,_,_,A,_⟩
 case inr=>cases A
 split at A
 case h_2=>cases A
 rename_i htr;have hl1:recs.length=lim - kk:=by rw[g1];simp;omega
 have hmid:∀j,j<lim - kk->((ops.take lim).drop kk)[j]?=ops[kk+j]?:=λj hj=>by
  rw[jK,FZ,ad (by omega)]
 have F:=xp (P:=P) (n:=n) (nb0:=s.nb) (kk:=kk) (ops:=ops) (recs:=recs) (s0:=s0) (trf:=trf) N U (by omega) I htr g5 (λj o r Y S=>by
  have hj:j<recs.length:=by
   rcases aI j recs.length with h' | h'
   ·exact h'
   ·rw[dX h']at S;cases S
  exact g6 j o r (by rw[hmid j (by omega)];exact Y) S)
 split at A
 case h_2=>cases A
 rename_i o hoa;split at A
 case h_2=>cases A
 rename_i hga;have hst0:appD 0 (List.replicate kk mc++(recs++List.replicate (ops.length - (kk+recs.length)) mc)) (Dn f) s0=s0:=by
  rw[lR,kG,lc];exact tj recs _ _ _ λj _=>B _ (by omega)
 have hcnt:∀m,((List.range m).filter λi=>!Dn f i).length<=m - kk:=by
  intro m
  induction m with
  | zero=>simp
  | succ m ih=>
   rw[List.range_succ,EG,gv];rcases aI m kk with hm | hm
   ·have:([m].filter λi=>!Dn f i)=[]:=by simp[G m hm]
    rw[this,iN];omega
   ·have:([m].filter λi=>!Dn f i).length<=1:=by simpa using List.length_filter_le (λi=>!Dn f i) [m]
    omega
 refine HT F (lim:=lim) (kk:=kk) l (λj t M=>⟨⟨t,by omega⟩,g lim j (mJ hup j t (by omega))⟩) (λj t M=>g j lim (mJ u j t (by omega))) (λfuel d ι1 a1 w1 hs1 J V hdn0 T hI2 hc1=>?_) _ f ι a0 _ hs0 G (λj o' e Y C he hb=>?_) (B lim O) (by rw[hst0];exact hI0) (λi hi hni b hb1' hb2'=>hI.fresh b (by omega)) (hcnt _)
 ·
  have hD1:appD 0 (List.replicate kk mc++(recs++List.replicate (ops.length - (kk+recs.length)) mc)) (Dn d) s0=recs.foldl St.put s0:=by
   rw[lR,kG,lc];exact vM recs _ _ _ λj hj=>J _ (by omega)
  rw[hD1]at hI2;have hI3:=hI2.eqv g3.symm;have hoa':ops.toArray[lim]?=some o:=by simpa using hoa
  unfold wpOp;rw[hoa'];simp only;rw[ad (by simp[Region.wanted,hga])];refine .inl (A5 hE hI3 (λb hb=>hI3.fresh b hb) (aV _) A (λH Z a2 w2 M hI4=>?_) (λv s' D x a' w' hk=>by cases hk));rcases wH hE (ops.drop (lim+1)) (lim+1) { H with nb:=H.nb+8*ops.length } [] (by simp;omega) M with⟨recs2,sf2,trf2,q1,q2,q3,_,q5,q6⟩ | ⟨p,po,recs2,sf2,sp2,trf2,v,wr,rp,_,_,_,_,_,_,q2,_⟩
  case inr=>cases q2
  split at q2
  case h_2=>cases q2
  rename_i R;have hl2:recs2.length=ops.length - (lim+1):=by rw[q1];simp
  have F2:=xp (P:=P) (n:=n) (nb0:=H.nb) (kk:=lim+1) (ops:=ops) (recs:=recs2) (s0:={ H with nb:=H.nb+8*ops.length }) (trf:=trf2) N U (by omega) rfl R q5 (λj o r Y S=>q6 j o r (by rw[jK];exact Y) S);have hlt:lim<d.size:=by omega
  have q:Dn (d.setIfInBounds lim true)=λj=>if j=lim then true else Dn d j:=by
   funext j;exact uI hlt j
  have hund:∀j,lim<j->j<ops.length->Dn (d.setIfInBounds lim true) j=false:=by
   intro j t M;rw[q];simp only[show¬j=lim by omega,aG];cases C:Dn d j with
   | false=>rfl
   | true=>
    have:=g j lim (mJ u j t (by omega)) _ hdn0 C;rw[V]at this;cases this
  have hfin:∀L a3 w3,Inv n ι0 w0 L ((List.replicate (lim+1) mc++(recs2++List.replicate (ops.length - (lim+1+recs2.length)) mc)).foldl St.put { H with nb:=H.nb+8*ops.length }) a3 w3->Q .normal a3 w3:=by
   intro L a3 w3 hI5;rw[Ax,Ax,nl,nl]at hI5;exact⟨rfl,sf2,L,hI5.eqv q3.symm,q2⟩
  have K:∀j,j<lim+1->Dn (d.setIfInBounds lim true) j=true:=by
   intro j hj;rw[q];by_cases h:j=lim
   ·simp[h]
   ·simp only[h,aG];exact J j (by omega)
  have hI6:Inv n ι0 w0 Z (appD 0 (List.replicate (lim+1) mc++(recs2++List.replicate (ops.length - (lim+1+recs2.length)) mc)) (Dn (d.setIfInBounds lim true)) { H with nb:=H.nb+8*ops.length }) a2 w2:=by
   rw[lR,kG,lc,tj recs2 _ _ _ λj hj=>hund _ (by omega) (by omega)];exact hI4.grow _
  have hc2:((List.range ops.length).filter λj=>!Dn (d.setIfInBounds lim true) j).length<=fuel:=by
   have:((List.range ops.length).filter λj=>!Dn (d.setIfInBounds lim true) j).length<((List.range ops.length).filter λj=>!Dn d j).length:=by
    rw[q];have hsub:((List.range ops.length).filter λj=>!(if j=lim then true else Dn d j))=((List.range ops.length).filter λj=>!Dn d j).filter λj=>decide (j≠lim):=by
     rw[CQ];congr 1;funext j;by_cases hji:j=lim<;>simp[hji]
    rw[hsub];refine BZ.2 ⟨lim,by simp[l,V],by simp⟩
   omega
  exact xX F2 (ι0:=ι0) (w0:=w0) (kk:=lim+1) (λj t M=>⟨t,by omega⟩) hfin fuel _ Z a2 w2 (by simpa using hs1) K T hI6 (λi hi hni b hb1' hb2'=>hI4.fresh b (by omega)) hc2
 ·have t:=gV ops 0 N j o' e Y he hb;refine G _ ?_;rcases aI j kk with h | h
  ·omega
  ·rw[B j h]at C;cases C
def IY{α:Type}{E:List Ent}(a:∀x∈E,ib P x){n:Nat}{ops:List Oper}{s:St}{k:Ex->St->Option α}{z:α}(h:KX P E n ops s k=some z)(id:Nat):
  SemC P n (.region id ops.toArray true) s λex s'=>k ex s'=some z:=by
 unfold KX at h;split at h
 ·exact DJ a h id
 ·exact Ge a h id
end Go.Abs
