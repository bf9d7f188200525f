
import Derived.Test.YtjkmipianfkncaaGreatDoorAbsV
set_option linter.unusedSimpArgs false
set_option linter.unusedVariables false
set_option linter.defProp false
namespace Go.Abs
variable {P:Program}
def pB{f:Nat->Bool}:∀{r i:Nat},tR f r i=true->∀j,i<=j->j<i+r->f j=true
 | 0,_,_,j,_,_=>by omega
 | r+1,i,h,j,b,c=>by
  simp only[tR,aC]at h;by_cases a:j=i
  ·rw[a];exact h.1
  ·exact pB h.2 j (by omega) (by omega)
def DO{n:Nat}{ops:Array Oper}{r i:Nat}{a:Array Bool}(h:uy n ops (r+1) i a=true):
  ∃o x,ops[i]?=some o/\o.op=.move x/\o.guard=none/\uX n o.dst=true/\Region.free .any ops a i=true/\(Region.ready .any ops a).contains i=true/\uy n ops r (i+1) (a.setIfInBounds i true)=true:=by
 simp only[uy,aC]at h;obtain⟨b,j,e,d⟩:=h;split at b
 ·rename_i o k;simp only[aC]at b;obtain⟨c,f,g⟩:=b;split at c
  ·rename_i x hx;exact⟨o,x,k,hx,by simpa using f,g,j,e,d⟩
  ·cases c
 ·cases b
def GE{α:Type}{n:Nat}{ops:List Oper}(f:Region.noSelect ops.toArray=true){ι0:Inj}{w0:Base}{ι:Inj}{w:World}{Q:Exit->Act->World->Prop}(D:∀c a w,¬Q (.panic c) a w){fuel:Nat}{k:St->Option α}{z:α}:
  ∀(r i:Nat) (b:Array Bool) (s:St) (a:Act),uy n ops.toArray r i b=true->b.size=ops.length->i+r<=ops.length->(∀j,j<i->Dn b j=true)->(∀j,i<=j->Dn b j=false)->Inv n ι0 w0 ι s a w->
   runM ((ops.drop i).take r) s k=some z->
   (∀(s':St) (m:Act) (d:Array Bool),k s'=some z->Inv n ι0 w0 ι s' m w->s'.nb=s.nb->d.size=ops.length->(∀j,j<i+r->Dn d j=true)->(∀j,i+r<=j->Dn d j=false)->wpAny P .any ops.toArray Q fuel d m w)->
   wpAny P .any ops.toArray Q (fuel+r) b a w
 | 0,i,b,s,a,_,hs,_,B,q,e,h,y=>by
  simp only[ot,runM]at h;exact y s a b h e rfl hs (by simpa using B) (by simpa using q)
 | r+1,i,b,s,a,O,hs,F,B,q,e,h,y=>by
  obtain⟨o,x,C,hx,I,hd,N,G,A⟩:=DO O;have ho':ops[i]?=some o:=by simpa using C
  have g:(ops.drop i).take (r+1)=o::(ops.drop (i+1)).take r:=by
   have hi:i<ops.length:=by omega
   rw[bf hi]at ho';simp only[ar]at ho';rw[qQ hi,pf,ho']
  rw[g]at h;simp only[runM,hx]at h;obtain⟨u,S,h⟩:=av h;have L:=br e.tmps S;have hy:Yields P ops.toArray o (a.eval x) a:=.inl ⟨by simp[Region.wanted,I],λw=>by simp[execOp,hx]⟩;have hI':Inv n ι0 w0 ι (s.app o.dst (some u) [] s.nb) (a.put o.dst (a.eval x)) w:=
   ⟨by rw[mZ];exact e.size,by rw[jr];exact e.defers,e.tmps.app e.size hd (λv t=>by cases t;exact L),e.mem,e.ext,e.new,e.fr,e.low,e.fz,e.gl⟩
  refine wpAny_take (fuel:=fuel+r) C f N G (λc a w h=>absurd h (D c _ w)) hy ?_;have l:i<b.size:=by omega
  refine GE f D r (i+1) _ _ _ A (by simpa using hs) (by omega) (λj p=>?_) (λj p=>?_) hI' h λs' m d K H M J R E=>y s' m d K H M J (λj p=>R j (by omega)) (λj p=>E j (by omega))
  ·rw[y4 l];split
   ·rfl
   ·exact B j (by omega)
  ·rw[y4 l,ab (by omega)];exact q j (by omega)
def pK:Rec:=⟨none,none,[],[]⟩
def wb(s:St):s.put pK=s:=rfl
def oy:∀(m i:Nat) (l:List Rec) (D:Nat->Bool) (s:St),appD i (List.replicate m pK++l) D s=appD (i+m) l D s
 | 0,i,l,D,s=>by simp
 | m+1,i,l,D,s=>by
  rw[uW,dB];simp only[appD,wb,ite_self];rw[oy m (i+1) l D s,show i+1+m=i+(m+1)by omega]
def ny:∀(m i:Nat) (D:Nat->Bool) (s:St),appD i (List.replicate m pK) D s=s
 | 0,i,D,s=>rfl
 | m+1,i,D,s=>by
  rw[uW];simp only[appD,wb,ite_self];exact ny m (i+1) D s
def nJ:∀(l m:List Rec) (i:Nat) (D:Nat->Bool) (s:St),appD i (l++m) D s=appD (i+l.length) m D (appD i l D s)
 | [],m,i,D,s=>by simp[appD]
 | r::l,m,i,D,s=>by
  simp only[dB,appD,aN];rw[nJ l m (i+1)];rw[show i+1+l.length=i+(l.length+1)by omega]
def xk:∀(l:List Rec) (i:Nat) (D:Nat->Bool) (s:St),(∀j,j<l.length->D (i+j)=false)->appD i l D s=s
 | [],i,D,s,_=>rfl
 | r::l,i,D,s,h=>by
  have a:=h 0 (by simp);simp only[cG]at a;simp only[appD,a,bj,az];exact xk l (i+1) D s λj b=>by have:=h (j+1) (by simpa using b);rwa[show i+(j+1)=i+1+j by omega]at this
def qO:∀(m:Nat) (s:St),(List.replicate m pK).foldl St.put s=s
 | 0,_=>rfl
 | m+1,s=>by rw[uW,vb,wb];exact qO m s
def Cb{n nb0 kk:Nat}{ops:List Oper}{recs:List Rec}{s0:St}{trf:List TE}(B:qi 0 ops=true)(q:sV ops.toArray (kX ops []) 0 [] ops=true)
  (I:kk+recs.length<=ops.length) (D:s0.nb=nb0+8*ops.length) (p:pw (kX ops []) (trf.filter λx=>!(x.rd.isEmpty&&x.ws.isEmpty))=true)
  (L:∀j r,recs[j]?=some r->(⟨kk+j,r.rd,keys r.wr⟩:TE)∈trf\/(r.rd=[]/\r.wr=[]))
  (S:∀(j:Nat) (o:Oper) (r:Rec),ops[kk+j]?=some o->recs[j]?=some r->r.dst=o.dst/\ui P n nb0 ops (kk+j) o r ((recs.take j).foldl St.put s0)):
  DrawFacts P n nb0 ops (List.replicate kk pK++(recs++List.replicate (ops.length - (kk+recs.length)) pK)) s0 (λj=>kk<=j/\j<kk+recs.length):=by
 have a:=pP ops ops [] (by simp) (λj i z=>by simp[getN]at z);have b:∀(j:Nat) (r:Rec),(List.replicate kk pK++(recs++List.replicate (ops.length - (kk+recs.length)) pK))[j]?=some r->(r=pK/\¬(kk<=j/\j<kk+recs.length))\/(kk<=j/\j<kk+recs.length/\recs[j - kk]?=some r):=by
  intro j r d;rcases aF j kk with h | h
  ·rw[nF (by simpa using h)]at d;exact .inl ⟨(List.mem_replicate.1 (fG d)).2,by omega⟩
  ·rw[pW (by simpa using h)]at d;simp only[FG]at d;rcases aF (j - kk) recs.length with k | k
   ·rw[nF k]at d;exact .inr ⟨h,by omega,d⟩
   ·rw[pW k]at d;exact .inl ⟨(List.mem_replicate.1 (fG d)).2,by omega⟩
 refine⟨by simp;omega,D,λj o r w O=>?_,λj o e w M z=>?_,λi j x y c hx hy=>?_,λi j x y c hx hy=>?_⟩
 ·rcases b j r O with⟨rfl,A⟩ | ⟨T,k,u⟩
  ·exact⟨λt s=>(by cases s),λU=>absurd U A⟩
  ·obtain⟨R,J⟩:=S (j - kk) o r (by rw[show kk+(j - kk)=j by omega];exact w) u;rw[show kk+(j - kk)=j by omega]at J;refine⟨λt s=>R▸s,λ_=>J.eqv ?_⟩;rw[oy,nJ];have K:=qx recs (0+kk) (j - kk) s0;have Q:appD (0+kk) recs (λm=>decide (m<0+kk+(j - kk))) s0=appD (0+kk) recs (λm=>decide (m<j)) s0:=by rw[show 0+kk+(j - kk)=j by omega]
   rw[Q]at K;rw[ny];exact K
 ·have:=jE ops 0 B j o e w M z;omega
 ·have:=mX (masks:=kX ops []) ops [] q i j x y (by simpa using c) (by simpa using hx) hy;simp only[fR,cU]at this;exact this.imp (a j i) λh=>h
 ·rcases b i x hx with⟨rfl,_⟩ | ⟨T,k,u⟩
  ·exact .inr (by simp[pK,keys])
  ·rcases b j y hy with⟨rfl,_⟩ | ⟨W,V,N⟩
   ·exact .inr (by simp[pK,keys])
   ·have hx':=L (i - kk) x u;have hy':=L (j - kk) y N;rw[show kk+(i - kk)=i by omega]at hx';rw[show kk+(j - kk)=j by omega]at hy';rcases hx' with H | ⟨F,l⟩
    ·rcases hy' with E | ⟨C,G⟩
     ·by_cases g:(x.rd=[]/\x.wr=[])
      ·exact .inr (by simp[g.1,g.2,keys])
      ·by_cases f:(y.rd=[]/\y.wr=[])
       ·exact .inr (by simp[f.1,f.2,keys])
       ·have m1:(⟨i,x.rd,keys x.wr⟩:TE)∈trf.filter λx=>!(x.rd.isEmpty&&x.ws.isEmpty):=by
         refine nG.2 ⟨H,?_⟩;simp only[keys,kL,Dj,zQ];rcases G8 (x.rd=[])with h | h
         ·exact .inr (by simpa usingλv=>g ⟨h,v⟩)
         ·exact .inl h
        have m2:(⟨j,y.rd,keys y.wr⟩:TE)∈trf.filter λx=>!(x.rd.isEmpty&&x.ws.isEmpty):=by
         refine nG.2 ⟨E,?_⟩;simp only[keys,kL,Dj,zQ];rcases G8 (y.rd=[])with h | h
         ·exact .inr (by simpa usingλv=>f ⟨h,v⟩)
         ·exact .inl h
        have:=CN (qy p _ m1 _ m2 c) c;exact this.imp (a j i) λh=>h
     ·exact .inr (by simp[C,G,keys])
    ·exact .inr (by simp[F,l,keys])
def Inv.grow{n:Nat}{ι0 ι:Inj}{w0:Base}{s:St}{a:Act}{w:World}(h:Inv n ι0 w0 ι s a w)(m:Nat):Inv n ι0 w0 ι { s with nb:=s.nb+m } a w:=
 ⟨h.size,h.defers,h.tmps,⟨h.mem.inj,λb r C=>by have:=h.mem.low b r C;simp only;omega,h.mem.dom,h.mem.blk⟩,h.ext,h.new,h.fr,h.low,h.fz,h.gl⟩
def Dx{ops:List Oper}(h:SQ ops=true):Region.noSelect ops.toArray=true:=by
 unfold SQ at h;unfold Region.noSelect;rw[List.all_toArray,cE];rw[cE]at h;intro o a;have:=h o a;cases b:o.op<;>simp_all
def Ja{α:Type}{E:List Ent}(hE:∀x∈E,gg P x){n:Nat}{ops:List Oper}{lim:Nat}{s:St}{k:Ex->St->Option α}{z:α}(h:J6 P E n ops lim s k=some z)(id:Nat):
  SemC P n (.region id ops.toArray true) s λex s'=>k ex s'=some z:=by
 intro ι0 w0 ι a w hI;unfold J6 at h;simp only at h;generalize hkk:Jc (getN (kX ops []) lim) lim lim 0=kk at h;split at h
 case h_2=>cases h
 rename_i T;simp only[aC,Gn,Uc]at T;obtain⟨⟨K,hb2,hb3⟩,hmix,l,O,C,hup,t⟩:=T;have l:lim<ops.length:=aH l;have O:=aH O;have g:=pP ops ops [] (by simp) (λj i hb=>by simp[getN]at hb);have hI1:Inv n ι0 w0 ι { s with nb:=s.nb+8*ops.length } a { w with drawn:=w.drawn+1 }:=(hI.drawn (w.drawn+1)).grow _;let Q:Exit->Act->World->Prop:=λe a w=>e=.normal/\∃s' D,Inv n ι0 w0 D s' a w/\k .normal s'=some z;refine tC (λe a w (hq:Q e a w)=>?_) (wp_region_any (Q:=Q) hmix ?_)
 ·obtain⟨rfl,s',D,q,L⟩:=hq;exact⟨.normal,s',D,rfl,q,L⟩
 have hD0:∀i,Dn (Array.replicate ops.length false) i=false:=by
  intro i;unfold Dn;simp only[qf,Vd];split<;>rfl
 have hsz:ops.toArray.size=(ops.length - kk)+kk:=by simp;omega
 rw[hsz,show Array.replicate ((ops.length - kk)+kk) false=Array.replicate ops.length false by rw[Nat.sub_add_cancel (by omega)]];refine GE (Dx hb3) (λc a w hq=>by cases hq.1) kk 0 _ _ a C (by simp) (by omega) (λj hj=>by omega) (λj _=>hD0 j) hI1 (by rw[bI];exact h) λs0 a0 f h hI0 I hs0 G A=>?_;simp only[cU]at G A;simp only at I;rcases zT hE ((ops.take lim).drop kk) kk s0 [] (by simp;omega) h with⟨recs,sf,trf,g1,H,g3,_,g5,g6⟩ | ⟨p,po,recs,sf,sp,trf,v,wr,rp,_,_,_,_,_,_,H,_⟩
 case inr=>cases H
 split at H
 case h_2=>cases H
 rename_i htr;have hl1:recs.length=lim - kk:=by rw[g1];simp;omega
 have hmid:∀j,j<lim - kk->((ops.take lim).drop kk)[j]?=ops[kk+j]?:=λj hj=>by
  rw[nv,Ku,ae (by omega)]
 have F:=Cb (P:=P) (n:=n) (nb0:=s.nb) (kk:=kk) (ops:=ops) (recs:=recs) (s0:=s0) (trf:=trf) K hb2 (by omega) I htr g5 (λj o r S hr=>by
  have hj:j<recs.length:=by
   rcases aF j recs.length with h' | h'
   ·exact h'
   ·rw[gU h']at hr;cases hr
  exact g6 j o r (by rw[hmid j (by omega)];exact S) hr)
 split at H
 case h_2=>cases H
 rename_i o hoa;split at H
 case h_2=>cases H
 rename_i hga;have hst0:appD 0 (List.replicate kk pK++(recs++List.replicate (ops.length - (kk+recs.length)) pK)) (Dn f) s0=s0:=by
  rw[oy,nJ,ny];exact xk recs _ _ _ λj _=>A _ (by omega)
 have Z:∀m,((List.range m).filter λi=>!Dn f i).length<=m - kk:=by
  intro m
  induction m with
  | zero=>simp
  | succ m ih=>
   rw[List.range_succ,Jd,bw];rcases aF m kk with hm | hm
   ·have:([m].filter λi=>!Dn f i)=[]:=by simp[G m hm]
    rw[this,fR];omega
   ·have:([m].filter λi=>!Dn f i).length<=1:=by simpa using List.length_filter_le (λi=>!Dn f i) [m]
    omega
 refine NR F (lim:=lim) (kk:=kk) l (λj q L=>⟨⟨q,by omega⟩,g lim j (pB hup j q (by omega))⟩) (λj q L=>g j lim (pB t j q (by omega))) (λfuel d ι1 a1 w1 hs1 J hn1 hdn0 Y W hc1=>?_) _ f ι a0 _ hs0 G (λj o' e S B he hb=>?_) (A lim O) (by rw[hst0];exact hI0) (λi hi hni b U hb2'=>hI.fresh b (by omega)) (Z _)
 ·
  have hD1:appD 0 (List.replicate kk pK++(recs++List.replicate (ops.length - (kk+recs.length)) pK)) (Dn d) s0=recs.foldl St.put s0:=by
   rw[oy,nJ,ny];exact An recs _ _ _ λj hj=>J _ (by omega)
  rw[hD1]at W;have V:=W.eqv g3.symm;have hoa':ops.toArray[lim]?=some o:=by simpa using hoa
  unfold wpOp;rw[hoa'];simp only;rw[ae (by simp[Region.wanted,hga])];refine .inl (Ak hE V (λb hb=>V.fresh b hb) (aQ _) H (λy X a2 w2 L hI4=>?_) (λv s' D x a' w' hk=>by cases hk));rcases zT hE (ops.drop (lim+1)) (lim+1) { y with nb:=y.nb+8*ops.length } [] (by simp;omega) L with⟨recs2,sf2,trf2,q1,q2,q3,_,q5,q6⟩ | ⟨p,po,recs2,sf2,sp2,trf2,v,wr,rp,_,_,_,_,_,_,q2,_⟩
  case inr=>cases q2
  split at q2
  case h_2=>cases q2
  rename_i htr2;have hl2:recs2.length=ops.length - (lim+1):=by rw[q1];simp
  have F2:=Cb (P:=P) (n:=n) (nb0:=y.nb) (kk:=lim+1) (ops:=ops) (recs:=recs2) (s0:={ y with nb:=y.nb+8*ops.length }) (trf:=trf2) K hb2 (by omega) rfl htr2 q5 (λj o r S hr=>q6 j o r (by rw[nv];exact S) hr);have hlt:lim<d.size:=by omega
  have u:Dn (d.setIfInBounds lim true)=λj=>if j=lim then true else Dn d j:=by
   funext j;exact y4 hlt j
  have hund:∀j,lim<j->j<ops.length->Dn (d.setIfInBounds lim true) j=false:=by
   intro j q L;rw[u];simp only[show¬j=lim by omega,az];cases B:Dn d j with
   | false=>rfl
   | true=>
    have:=g j lim (pB t j q (by omega)) _ hdn0 B;rw[hn1]at this;cases this
  have hfin:∀N a3 w3,Inv n ι0 w0 N ((List.replicate (lim+1) pK++(recs2++List.replicate (ops.length - (lim+1+recs2.length)) pK)).foldl St.put { y with nb:=y.nb+8*ops.length }) a3 w3->Q .normal a3 w3:=by
   intro N a3 w3 R;rw[GI,GI,qO,qO]at R;exact⟨rfl,sf2,N,R.eqv q3.symm,q2⟩
  have M:∀j,j<lim+1->Dn (d.setIfInBounds lim true) j=true:=by
   intro j hj;rw[u];by_cases h:j=lim
   ·simp[h]
   ·simp only[h,az];exact J j (by omega)
  have hI6:Inv n ι0 w0 X (appD 0 (List.replicate (lim+1) pK++(recs2++List.replicate (ops.length - (lim+1+recs2.length)) pK)) (Dn (d.setIfInBounds lim true)) { y with nb:=y.nb+8*ops.length }) a2 w2:=by
   rw[oy,nJ,ny,xk recs2 _ _ _ λj hj=>hund _ (by omega) (by omega)];exact hI4.grow _
  have hc2:((List.range ops.length).filter λj=>!Dn (d.setIfInBounds lim true) j).length<=fuel:=by
   have:((List.range ops.length).filter λj=>!Dn (d.setIfInBounds lim true) j).length<((List.range ops.length).filter λj=>!Dn d j).length:=by
    rw[u];have hsub:((List.range ops.length).filter λj=>!(if j=lim then true else Dn d j))=((List.range ops.length).filter λj=>!Dn d j).filter λj=>decide (j≠lim):=by
     rw[GF];congr 1;funext j;by_cases hji:j=lim<;>simp[hji]
    rw[hsub];refine AP.2 ⟨lim,by simp[l,hn1],by simp⟩
   omega
  exact Dw F2 (ι0:=ι0) (w0:=w0) (kk:=lim+1) (λj q L=>⟨q,by omega⟩) hfin fuel _ X a2 w2 (by simpa using hs1) M Y hI6 (λi hi hni b U hb2'=>hI4.fresh b (by omega)) hc2
 ·have q:=jE ops 0 K j o' e S he hb;refine G _ ?_;rcases aF j kk with h | h
  ·omega
  ·rw[A j h]at B;cases B
def OG{α:Type}{E:List Ent}(a:∀x∈E,gg P x){n:Nat}{ops:List Oper}{s:St}{k:Ex->St->Option α}{z:α}(h:Ti P E n ops s k=some z)(id:Nat):
  SemC P n (.region id ops.toArray true) s λex s'=>k ex s'=some z:=by
 unfold Ti at h;split at h
 ·exact I0 a h id
 ·exact Ja a h id
end Go.Abs
