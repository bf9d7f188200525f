
import Derived.Test.YtadejcglcffgbacGreatDoorAbsV
set_option linter.unusedSimpArgs false
set_option linter.unusedVariables false
set_option linter.defProp false
namespace Go.Abs
variable {P:Program}
def lS{f:Nat->Bool}:∀{r i:Nat},pH f r i=true->∀j,i<=j->j<i+r->f j=true
 | 0,_,_,j,_,_=>by omega
 | r+1,i,h,j,h1,h2=>by
  simp only[pH,aw]at h;by_cases a:j=i
  ·rw[a];exact h.1
  ·exact lS h.2 j (by omega) (by omega)
def yi{n:Nat}{ops:Array Oper}{r i:Nat}{a:Array Bool}(h:qp n ops (r+1) i a=true):
  ∃o x,ops[i]?=some o/\o.op=.move x/\o.guard=none/\qf n o.dst=true/\Region.free .any ops a i=true/\(Region.ready .any ops a).contains i=true/\qp n ops r (i+1) (a.setIfInBounds i true)=true:=by
 simp only[qp,aw]at h;obtain⟨h1,h2,j,e⟩:=h;split at h1
 ·rename_i o g;simp only[aw]at h1;obtain⟨b,d,c⟩:=h1;split at b
  ·rename_i x f;exact⟨o,x,g,f,by simpa using d,c,h2,j,e⟩
  ·cases b
 ·cases h1
def zT{α:Type}{n:Nat}{ops:List Oper}(f:Region.noSelect ops.toArray=true){ι0:Inj}{w0:Base}{ι:Inj}{w:World}{Q:Exit->Act->World->Prop}(F:∀c a w,¬Q (.panic c) a w){fuel:Nat}{k:St->Option α}{z:α}:
  ∀(r i:Nat) (b:Array Bool) (s:St) (a:Act),qp n ops.toArray r i b=true->b.size=ops.length->i+r<=ops.length->(∀j,j<i->Dn b j=true)->(∀j,i<=j->Dn b j=false)->Inv n ι0 w0 ι s a w->
   runM ((ops.drop i).take r) s k=some z->
   (∀(m:St) (p:Act) (d:Array Bool),k m=some z->Inv n ι0 w0 ι m p w->m.nb=s.nb->d.size=ops.length->(∀j,j<i+r->Dn d j=true)->(∀j,i+r<=j->Dn d j=false)->wpAny P .any ops.toArray Q fuel d p w)->
   wpAny P .any ops.toArray Q (fuel+r) b a w
 | 0,i,b,s,a,_,A,_,D,y,e,h,B=>by
  simp only[kR,runM]at h;exact B s a b h e rfl A (by simpa using D) (by simpa using y)
 | r+1,i,b,s,a,X,A,U,D,y,e,h,B=>by
  obtain⟨o,x,E,G,N,O,W,K,t⟩:=yi X;have ho':ops[i]?=some o:=by simpa using E
  have g:(ops.drop i).take (r+1)=o::(ops.drop (i+1)).take r:=by
   have hi:i<ops.length:=by omega
   rw[bN hi]at ho';simp only[af]at ho';rw[sw hi,mC,ho']
  rw[g]at h;simp only[runM,G]at h;obtain⟨u,I,h⟩:=ah h;have J:=aP e.tmps I;have M:Yields P ops.toArray o (a.eval x) a:=.inl ⟨by simp[Region.wanted,N],λw=>by simp[execOp,G]⟩;have hI':Inv n ι0 w0 ι (s.app o.dst (some u) [] s.nb) (a.put o.dst (a.eval x)) w:=
   ⟨by rw[jJ];exact e.size,by rw[fX];exact e.defers,e.tmps.app e.size O (λv q=>by cases q;exact J),e.mem,e.ext,e.new,e.fr,e.low,e.fz,e.gl⟩
  refine wpAny_take (fuel:=fuel+r) E f W K (λc a w h=>absurd h (F c _ w)) M ?_;have l:i<b.size:=by omega
  refine zT f F r (i+1) _ _ _ t (by simpa using A) (by omega) (λj C=>?_) (λj C=>?_) hI' h λm p d L H R V S T=>B m p d L H R V (λj C=>S j (by omega)) (λj C=>T j (by omega))
  ·rw[uJ l];split
   ·rfl
   ·exact D j (by omega)
  ·rw[uJ l,ab (by omega)];exact y j (by omega)
def lX:Rec:=⟨none,none,[],[]⟩
def tO(s:St):s.put lX=s:=rfl
def lk:∀(m i:Nat) (l:List Rec) (D:Nat->Bool) (s:St),appD i (List.replicate m lX++l) D s=appD (i+m) l D s
 | 0,i,l,D,s=>by simp
 | m+1,i,l,D,s=>by
  rw[pY,jX];simp only[appD,tO,ite_self];rw[lk m (i+1) l D s,show i+1+m=i+(m+1)by omega]
def ki:∀(m i:Nat) (D:Nat->Bool) (s:St),appD i (List.replicate m lX) D s=s
 | 0,i,D,s=>rfl
 | m+1,i,D,s=>by
  rw[pY];simp only[appD,tO,ite_self];exact ki m (i+1) D s
def jY:∀(l m:List Rec) (i:Nat) (D:Nat->Bool) (s:St),appD i (l++m) D s=appD (i+l.length) m D (appD i l D s)
 | [],m,i,D,s=>by simp[appD]
 | r::l,m,i,D,s=>by
  simp only[jX,appD,bp];rw[jY l m (i+1)];rw[show i+1+l.length=i+(l.length+1)by omega]
def tG:∀(l:List Rec) (i:Nat) (D:Nat->Bool) (s:St),(∀j,j<l.length->D (i+j)=false)->appD i l D s=s
 | [],i,D,s,_=>rfl
 | r::l,i,D,s,h=>by
  have h0:=h 0 (by simp);simp only[eu]at h0;simp only[appD,h0,cb,aD];exact tG l (i+1) D s λj a=>by have:=h (j+1) (by simpa using a);rwa[show i+(j+1)=i+1+j by omega]at this
def mQ:∀(m:Nat) (s:St),(List.replicate m lX).foldl St.put s=s
 | 0,_=>rfl
 | m+1,s=>by rw[pY,qO,tO];exact mQ m s
def xw{n nb0 kk:Nat}{ops:List Oper}{recs:List Rec}{s0:St}{trf:List TE}(H:mz 0 ops=true)(B:o5 ops.toArray (ie ops []) 0 [] ops=true)
  (M:kk+recs.length<=ops.length) (G:s0.nb=nb0+8*ops.length) (z:lG (ie ops []) (trf.filter λx=>!(x.rd.isEmpty&&x.ws.isEmpty))=true)
  (K:∀j r,recs[j]?=some r->(⟨kk+j,r.rd,keys r.wr⟩:TE)∈trf\/(r.rd=[]/\r.wr=[]))
  (T:∀(j:Nat) (o:Oper) (r:Rec),ops[kk+j]?=some o->recs[j]?=some r->r.dst=o.dst/\pP P n nb0 ops (kk+j) o r ((recs.take j).foldl St.put s0)):
  DrawFacts P n nb0 ops (List.replicate kk lX++(recs++List.replicate (ops.length - (kk+recs.length)) lX)) s0 (λj=>kk<=j/\j<kk+recs.length):=by
 have a:=lQ ops ops [] (by simp) (λj i p=>by simp[getN]at p);have b:∀(j:Nat) (r:Rec),(List.replicate kk lX++(recs++List.replicate (ops.length - (kk+recs.length)) lX))[j]?=some r->(r=lX/\¬(kk<=j/\j<kk+recs.length))\/(kk<=j/\j<kk+recs.length/\recs[j - kk]?=some r):=by
  intro j r d;rcases aA j kk with h | h
  ·rw[ka (by simpa using h)]at d;exact .inl ⟨(List.mem_replicate.1 (dK d)).2,by omega⟩
  ·rw[kf (by simpa using h)]at d;simp only[List.length_replicate]at d;rcases aA (j - kk) recs.length with h2 | h2
   ·rw[ka h2]at d;exact .inr ⟨h,by omega,d⟩
   ·rw[kf h2]at d;exact .inl ⟨(List.mem_replicate.1 (dK d)).2,by omega⟩
 refine⟨by simp;omega,G,λj o r q O=>?_,λj o e q R p=>?_,λi j x y c I D=>?_,λi j x y c I D=>?_⟩
 ·rcases b j r O with⟨rfl,s⟩ | ⟨h1,h2,C⟩
  ·exact⟨λt A=>(by cases A),λU=>absurd U s⟩
  ·obtain⟨Q,J⟩:=T (j - kk) o r (by rw[show kk+(j - kk)=j by omega];exact q) C;rw[show kk+(j - kk)=j by omega]at J;refine⟨λt A=>Q▸A,λ_=>J.eqv ?_⟩;rw[lk,jY];have L:=mP recs (0+kk) (j - kk) s0;have N:appD (0+kk) recs (λm=>decide (m<0+kk+(j - kk))) s0=appD (0+kk) recs (λm=>decide (m<j)) s0:=by rw[show 0+kk+(j - kk)=j by omega]
   rw[N]at L;rw[ki];exact L
 ·have:=gy ops 0 H j o e q R p;omega
 ·have:=jO (masks:=ie ops []) ops [] B i j x y (by simpa using c) (by simpa using I) D;simp only[cP,ci]at this;exact this.imp (a j i) λh=>h
 ·rcases b i x I with⟨rfl,_⟩ | ⟨h1,h2,C⟩
  ·exact .inr (by simp[lX,keys])
  ·rcases b j y D with⟨rfl,_⟩ | ⟨V,W,S⟩
   ·exact .inr (by simp[lX,keys])
   ·have hx':=K (i - kk) x C;have hy':=K (j - kk) y S;rw[show kk+(i - kk)=i by omega]at hx';rw[show kk+(j - kk)=j by omega]at hy';rcases hx' with w | ⟨E,u⟩
    ·rcases hy' with l | ⟨v,k⟩
     ·by_cases g:(x.rd=[]/\x.wr=[])
      ·exact .inr (by simp[g.1,g.2,keys])
      ·by_cases f:(y.rd=[]/\y.wr=[])
       ·exact .inr (by simp[f.1,f.2,keys])
       ·have m1:(⟨i,x.rd,keys x.wr⟩:TE)∈trf.filter λx=>!(x.rd.isEmpty&&x.ws.isEmpty):=by
         refine iU.2 ⟨w,?_⟩;simp only[keys,ld,nX,AI];rcases AY (x.rd=[])with h | h
         ·exact .inr (by simpa usingλF=>g ⟨h,F⟩)
         ·exact .inl h
        have m2:(⟨j,y.rd,keys y.wr⟩:TE)∈trf.filter λx=>!(x.rd.isEmpty&&x.ws.isEmpty):=by
         refine iU.2 ⟨l,?_⟩;simp only[keys,ld,nX,AI];rcases AY (y.rd=[])with h | h
         ·exact .inr (by simpa usingλF=>f ⟨h,F⟩)
         ·exact .inl h
        have:=xX (mK z _ m1 _ m2 c) c;exact this.imp (a j i) λh=>h
     ·exact .inr (by simp[v,k,keys])
    ·exact .inr (by simp[E,u,keys])
def Inv.grow{n:Nat}{ι0 ι:Inj}{w0:Base}{s:St}{a:Act}{w:World}(h:Inv n ι0 w0 ι s a w)(m:Nat):Inv n ι0 w0 ι { s with nb:=s.nb+m } a w:=
 ⟨h.size,h.defers,h.tmps,⟨h.mem.inj,λb r A=>by have:=h.mem.low b r A;simp only;omega,h.mem.dom,h.mem.blk⟩,h.ext,h.new,h.fr,h.low,h.fz,h.gl⟩
def yx{ops:List Oper}(h:KO ops=true):Region.noSelect ops.toArray=true:=by
 unfold KO at h;unfold Region.noSelect;rw[List.all_toArray,ct];rw[ct]at h;intro o b;have:=h o b;cases a:o.op<;>simp_all
def DO{α:Type}{E:List Ent}(hE:∀x∈E,cN P x){n:Nat}{ops:List Oper}{lim:Nat}{s:St}{k:Ex->St->Option α}{z:α}(h:Di P E n ops lim s k=some z)(id:Nat):
  SemC P n (.region id ops.toArray true) s λex K=>k ex K=some z:=by
 intro ι0 w0 ι a w hI;unfold Di at h;simp only at h;generalize hkk:E3 (getN (ie ops []) lim) lim lim 0=kk at h;split at h
 case h_2=>cases h
 rename_i X;simp only[aw,Bj,Nl]at X;obtain⟨⟨N,hb2,hb3⟩,R,l,M,A,hup,t⟩:=X;have l:lim<ops.length:=az l;have M:=az M;have g:=lQ ops ops [] (by simp) (λj i U=>by simp[getN]at U);have hI1:Inv n ι0 w0 ι { s with nb:=s.nb+8*ops.length } a { w with drawn:=w.drawn+1 }:=(hI.drawn (w.drawn+1)).grow _;let Q:Exit->Act->World->Prop:=λe a w=>e=.normal/\∃K u,Inv n ι0 w0 u K a w/\k .normal K=some z;refine pC (λe a w (hq:Q e a w)=>?_) (wp_region_any (Q:=Q) R ?_)
 ·obtain⟨rfl,K,u,h1,h2⟩:=hq;exact⟨.normal,K,u,rfl,h1,h2⟩
 have hD0:∀i,Dn (Array.replicate ops.length false) i=false:=by
  intro i;unfold Dn;simp only[mV,MH];split<;>rfl
 have hsz:ops.toArray.size=(ops.length - kk)+kk:=by simp;omega
 rw[hsz,show Array.replicate ((ops.length - kk)+kk) false=Array.replicate ops.length false by rw[Nat.sub_add_cancel (by omega)]];refine zT (yx hb3) (λc a w hq=>by cases hq.1) kk 0 _ _ a A (by simp) (by omega) (λj hj=>by omega) (λj _=>hD0 j) hI1 (by rw[iE];exact h) λs0 a0 f h hI0 I hs0 y D=>?_;simp only[ci]at y D;simp only at I;rcases vW hE ((ops.take lim).drop kk) kk s0 [] (by simp;omega) h with⟨recs,sf,trf,g1,B,g3,_,g5,g6⟩ | ⟨p,po,recs,sf,sp,trf,v,wr,rp,_,_,_,_,_,_,B,_⟩
 case inr=>cases B
 split at B
 case h_2=>cases B
 rename_i htr;have hl1:recs.length=lim - kk:=by rw[g1];simp;omega
 have hmid:∀j,j<lim - kk->((ops.take lim).drop kk)[j]?=ops[kk+j]?:=λj hj=>by
  rw[jx,E5,ad (by omega)]
 have F:=xw (P:=P) (n:=n) (nb0:=s.nb) (kk:=kk) (ops:=ops) (recs:=recs) (s0:=s0) (trf:=trf) N hb2 (by omega) I htr g5 (λj o r ho hr=>by
  have hj:j<recs.length:=by
   rcases aA j recs.length with h' | h'
   ·exact h'
   ·rw[ec h']at hr;cases hr
  exact g6 j o r (by rw[hmid j (by omega)];exact ho) hr)
 split at B
 case h_2=>cases B
 rename_i o hoa;split at B
 case h_2=>cases B
 rename_i hga;have hst0:appD 0 (List.replicate kk lX++(recs++List.replicate (ops.length - (kk+recs.length)) lX)) (Dn f) s0=s0:=by
  rw[lk,jY,ki];exact tG recs _ _ _ λj _=>D _ (by omega)
 have T:∀m,((List.range m).filter λi=>!Dn f i).length<=m - kk:=by
  intro m
  induction m with
  | zero=>simp
  | succ m ih=>
   rw[List.range_succ,List.filter_append,cR];rcases aA m kk with hm | hm
   ·have:([m].filter λi=>!Dn f i)=[]:=by simp[y m hm]
    rw[this,cP];omega
   ·have:([m].filter λi=>!Dn f i).length<=1:=by simpa using List.length_filter_le (λi=>!Dn f i) [m]
    omega
 refine Ir F (lim:=lim) (kk:=kk) l (λj h1 h2=>⟨⟨h1,by omega⟩,g lim j (lS hup j h1 (by omega))⟩) (λj h1 h2=>g j lim (lS t j h1 (by omega))) (λfuel d ι1 a1 w1 hs1 H hn1 Y hdn1 W hc1=>?_) _ f ι a0 _ hs0 y (λj o' e ho G he U=>?_) (D lim M) (by rw[hst0];exact hI0) (λi hi hni b hb1' hb2'=>hI.fresh b (by omega)) (T _)
 ·
  have hD1:appD 0 (List.replicate kk lX++(recs++List.replicate (ops.length - (kk+recs.length)) lX)) (Dn d) s0=recs.foldl St.put s0:=by
   rw[lk,jY,ki];exact wz recs _ _ _ λj hj=>H _ (by omega)
  rw[hD1]at W;have S:=W.eqv g3.symm;have hoa':ops.toArray[lim]?=some o:=by simpa using hoa
  unfold wpOp;rw[hoa'];simp only;rw[ad (by simp[Region.wanted,hga])];refine .inl (vo hE S (λb U=>S.fresh b U) (aI _) B (λC V a2 w2 h2 hI4=>?_) (λv K u x a' w' hk=>by cases hk));rcases vW hE (ops.drop (lim+1)) (lim+1) { C with nb:=C.nb+8*ops.length } [] (by simp;omega) h2 with⟨recs2,sf2,trf2,q1,q2,q3,_,q5,q6⟩ | ⟨p,po,recs2,sf2,sp2,trf2,v,wr,rp,_,_,_,_,_,_,q2,_⟩
  case inr=>cases q2
  split at q2
  case h_2=>cases q2
  rename_i Z;have hl2:recs2.length=ops.length - (lim+1):=by rw[q1];simp
  have F2:=xw (P:=P) (n:=n) (nb0:=C.nb) (kk:=lim+1) (ops:=ops) (recs:=recs2) (s0:={ C with nb:=C.nb+8*ops.length }) (trf:=trf2) N hb2 (by omega) rfl Z q5 (λj o r ho hr=>q6 j o r (by rw[jx];exact ho) hr);have hlt:lim<d.size:=by omega
  have q:Dn (d.setIfInBounds lim true)=λj=>if j=lim then true else Dn d j:=by
   funext j;exact uJ hlt j
  have hund:∀j,lim<j->j<ops.length->Dn (d.setIfInBounds lim true) j=false:=by
   intro j h1 h2;rw[q];simp only[show¬j=lim by omega,aD];cases G:Dn d j with
   | false=>rfl
   | true=>
    have:=g j lim (lS t j h1 (by omega)) _ Y G;rw[hn1]at this;cases this
  have hfin:∀L a3 w3,Inv n ι0 w0 L ((List.replicate (lim+1) lX++(recs2++List.replicate (ops.length - (lim+1+recs2.length)) lX)).foldl St.put { C with nb:=C.nb+8*ops.length }) a3 w3->Q .normal a3 w3:=by
   intro L a3 w3 hI5;rw[zL,zL,mQ,mQ]at hI5;exact⟨rfl,sf2,L,hI5.eqv q3.symm,q2⟩
  have J:∀j,j<lim+1->Dn (d.setIfInBounds lim true) j=true:=by
   intro j hj;rw[q];by_cases h:j=lim
   ·simp[h]
   ·simp only[h,aD];exact H j (by omega)
  have hI6:Inv n ι0 w0 V (appD 0 (List.replicate (lim+1) lX++(recs2++List.replicate (ops.length - (lim+1+recs2.length)) lX)) (Dn (d.setIfInBounds lim true)) { C with nb:=C.nb+8*ops.length }) a2 w2:=by
   rw[lk,jY,ki,tG recs2 _ _ _ λj hj=>hund _ (by omega) (by omega)];exact hI4.grow _
  have hc2:((List.range ops.length).filter λj=>!Dn (d.setIfInBounds lim true) j).length<=fuel:=by
   have:((List.range ops.length).filter λj=>!Dn (d.setIfInBounds lim true) j).length<((List.range ops.length).filter λj=>!Dn d j).length:=by
    rw[q];have O:((List.range ops.length).filter λj=>!(if j=lim then true else Dn d j))=((List.range ops.length).filter λj=>!Dn d j).filter λj=>decide (j≠lim):=by
     rw[Bz];congr 1;funext j;by_cases hji:j=lim<;>simp[hji]
    rw[O];refine Aj.2 ⟨lim,by simp[l,hn1],by simp⟩
   omega
  exact yl F2 (ι0:=ι0) (w0:=w0) (kk:=lim+1) (λj h1 h2=>⟨h1,by omega⟩) hfin fuel _ V a2 w2 (by simpa using hs1) J hdn1 hI6 (λi hi hni b hb1' hb2'=>hI4.fresh b (by omega)) hc2
 ·have h1:=gy ops 0 N j o' e ho he U;refine y _ ?_;rcases aA j kk with h | h
  ·omega
  ·rw[D j h]at G;cases G
def It{α:Type}{E:List Ent}(a:∀x∈E,cN P x){n:Nat}{ops:List Oper}{s:St}{k:Ex->St->Option α}{z:α}(h:Jq P E n ops s k=some z)(id:Nat):
  SemC P n (.region id ops.toArray true) s λex b=>k ex b=some z:=by
 unfold Jq at h;split at h
 ·exact CE a h id
 ·exact DO a h id
end Go.Abs
