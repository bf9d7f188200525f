
import Derived.Test.YtjkmipianfkncaaGreatDoorAbsV
set_option linter.unusedSimpArgs false
set_option linter.unusedVariables false
set_option linter.defProp false
namespace Go.Abs
variable {P:Program}
def oq{f:Nat->Bool}:∀{r i:Nat},sU f r i=true->∀j,i<=j->j<i+r->f j=true
 | 0,_,_,j,_,_=>by omega
 | r+1,i,h,j,c,b=>by
  simp only[sU,aB]at h;by_cases a:j=i
  ·rw[a];exact h.1
  ·exact oq h.2 j (by omega) (by omega)
def CM{n:Nat}{ops:Array Oper}{r i:Nat}{a:Array Bool}(h:uc n ops (r+1) i a=true):
  ∃o x,ops[i]?=some o/\o.op=.move x/\o.guard=none/\tZ n o.dst=true/\Region.free .any ops a i=true/\(Region.ready .any ops a).contains i=true/\uc n ops r (i+1) (a.setIfInBounds i true)=true:=by
 simp only[uc,aB]at h;obtain⟨b,d,k,g⟩:=h;split at b
 ·rename_i o f;simp only[aB]at b;obtain⟨c,e,j⟩:=b;split at c
  ·rename_i x hx;exact⟨o,x,f,hx,by simpa using e,j,d,k,g⟩
  ·cases c
 ·cases b
def GF{α:Type}{n:Nat}{ops:List Oper}(f:Region.noSelect ops.toArray=true){ι0:Inj}{w0:Base}{ι:Inj}{w:World}{Q:Exit->Act->World->Prop}(C:∀c a w,¬Q (.panic c) a w){fuel:Nat}{k:St->Option α}{z:α}:
  ∀(r i:Nat) (b:Array Bool) (s:St) (a:Act),uc n ops.toArray r i b=true->b.size=ops.length->i+r<=ops.length->(∀j,j<i->Dn b j=true)->(∀j,i<=j->Dn b j=false)->Inv n ι0 w0 ι s a w->
   runM ((ops.drop i).take r) s k=some z->
   (∀(s':St) (m:Act) (d:Array Bool),k s'=some z->Inv n ι0 w0 ι s' m w->s'.nb=s.nb->d.size=ops.length->(∀j,j<i+r->Dn d j=true)->(∀j,i+r<=j->Dn d j=false)->wpAny P .any ops.toArray Q fuel d m w)->
   wpAny P .any ops.toArray Q (fuel+r) b a w
 | 0,i,b,s,a,_,hs,_,A,q,e,h,B=>by
  simp only[nA,runM]at h;exact B s a b h e rfl hs (by simpa using A) (by simpa using q)
 | r+1,i,b,s,a,L,hs,R,A,q,e,h,B=>by
  obtain⟨o,x,D,hx,N,hd,O,M,y⟩:=CM L;have ho':ops[i]?=some o:=by simpa using D
  have g:(ops.drop i).take (r+1)=o::(ops.drop (i+1)).take r:=by
   have hi:i<ops.length:=by omega
   rw[bg hi]at ho';simp only[ar]at ho';rw[qd hi,oI,ho']
  rw[g]at h;simp only[runM,hx]at h;obtain⟨u,K,h⟩:=av h;have S:=bp e.tmps K;have hy:Yields P ops.toArray o (a.eval x) a:=.inl ⟨by simp[Region.wanted,N],λw=>by simp[execOp,hx]⟩;have hI':Inv n ι0 w0 ι (s.app o.dst (some u) [] s.nb) (a.put o.dst (a.eval x)) w:=
   ⟨by rw[mq];exact e.size,by rw[i6];exact e.defers,e.tmps.app e.size hd (λv p=>by cases p;exact S),e.mem,e.ext,e.new,e.fr,e.low,e.fz,e.gl⟩
  refine wpAny_take (fuel:=fuel+r) D f O M (λc a w h=>absurd h (C c _ w)) hy ?_;have l:i<b.size:=by omega
  refine GF f C r (i+1) _ _ _ y (by simpa using hs) (by omega) (λj t=>?_) (λj t=>?_) hI' h λs' m d I H E F G J=>B s' m d I H E F (λj t=>G j (by omega)) (λj t=>J j (by omega))
  ·rw[xR l];split
   ·rfl
   ·exact A j (by omega)
  ·rw[xR l,ab (by omega)];exact q j (by omega)
def o6:Rec:=⟨none,none,[],[]⟩
def vJ(s:St):s.put o6=s:=rfl
def og:∀(m i:Nat) (l:List Rec) (D:Nat->Bool) (s:St),appD i (List.replicate m o6++l) D s=appD (i+m) l D s
 | 0,i,l,D,s=>by simp
 | m+1,i,l,D,s=>by
  rw[tM,dq];simp only[appD,vJ,ite_self];rw[og m (i+1) l D s,show i+1+m=i+(m+1)by omega]
def mP:∀(m i:Nat) (D:Nat->Bool) (s:St),appD i (List.replicate m o6) D s=s
 | 0,i,D,s=>rfl
 | m+1,i,D,s=>by
  rw[tM];simp only[appD,vJ,ite_self];exact mP m (i+1) D s
def mQ:∀(l m:List Rec) (i:Nat) (D:Nat->Bool) (s:St),appD i (l++m) D s=appD (i+l.length) m D (appD i l D s)
 | [],m,i,D,s=>by simp[appD]
 | r::l,m,i,D,s=>by
  simp only[dq,appD,aP];rw[mQ l m (i+1)];rw[show i+1+l.length=i+(l.length+1)by omega]
def vC:∀(l:List Rec) (i:Nat) (D:Nat->Bool) (s:St),(∀j,j<l.length->D (i+j)=false)->appD i l D s=s
 | [],i,D,s,_=>rfl
 | r::l,i,D,s,h=>by
  have a:=h 0 (by simp);simp only[ct]at a;simp only[appD,a,bs,aC];exact vC l (i+1) D s λj b=>by have:=h (j+1) (by simpa using b);rwa[show i+(j+1)=i+1+j by omega]at this
def pP:∀(m:Nat) (s:St),(List.replicate m o6).foldl St.put s=s
 | 0,_=>rfl
 | m+1,s=>by rw[tM,ux,vJ];exact pP m s
def CS{n nb0 kk:Nat}{ops:List Oper}{recs:List Rec}{s0:St}{trf:List TE}(l:pQ 0 ops=true)(p:sK ops.toArray (kD ops []) 0 [] ops=true)
  (L:kk+recs.length<=ops.length) (H:s0.nb=nb0+8*ops.length) (w:om (kD ops []) (trf.filter λx=>!(x.rd.isEmpty&&x.ws.isEmpty))=true)
  (I:∀j r,recs[j]?=some r->(⟨kk+j,r.rd,keys r.wr⟩:TE)∈trf\/(r.rd=[]/\r.wr=[]))
  (U:∀(j:Nat) (o:Oper) (r:Rec),ops[kk+j]?=some o->recs[j]?=some r->r.dst=o.dst/\tn P n nb0 ops (kk+j) o r ((recs.take j).foldl St.put s0)):
  DrawFacts P n nb0 ops (List.replicate kk o6++(recs++List.replicate (ops.length - (kk+recs.length)) o6)) s0 (λj=>kk<=j/\j<kk+recs.length):=by
 have a:=o9 ops ops [] (by simp) (λj i B=>by simp[getN]at B);have b:∀(j:Nat) (r:Rec),(List.replicate kk o6++(recs++List.replicate (ops.length - (kk+recs.length)) o6))[j]?=some r->(r=o6/\¬(kk<=j/\j<kk+recs.length))\/(kk<=j/\j<kk+recs.length/\recs[j - kk]?=some r):=by
  intro j r d;rcases aF j kk with h | h
  ·rw[mS (by simpa using h)]at d;exact .inl ⟨(List.mem_replicate.1 (fE d)).2,by omega⟩
  ·rw[pj (by simpa using h)]at d;simp only[List.length_replicate]at d;rcases aF (j - kk) recs.length with k | k
   ·rw[mS k]at d;exact .inr ⟨h,by omega,d⟩
   ·rw[pj k]at d;exact .inl ⟨(List.mem_replicate.1 (fE d)).2,by omega⟩
 refine⟨by simp;omega,H,λj o r C S=>?_,λj o e C O B=>?_,λi j x y c hx hy=>?_,λi j x y c hx hy=>?_⟩
 ·rcases b j r S with⟨rfl,s⟩ | ⟨Q,k,z⟩
  ·exact⟨λt q=>(by cases q),λR=>absurd R s⟩
  ·obtain⟨M,J⟩:=U (j - kk) o r (by rw[show kk+(j - kk)=j by omega];exact C) z;rw[show kk+(j - kk)=j by omega]at J;refine⟨λt q=>M▸q,λ_=>J.eqv ?_⟩;rw[og,mQ];have K:=pD recs (0+kk) (j - kk) s0;have N:appD (0+kk) recs (λm=>decide (m<0+kk+(j - kk))) s0=appD (0+kk) recs (λm=>decide (m<j)) s0:=by rw[show 0+kk+(j - kk)=j by omega]
   rw[N]at K;rw[mP];exact K
 ·have:=jp ops 0 l j o e C O B;omega
 ·have:=me (masks:=kD ops []) ops [] p i j x y (by simpa using c) (by simpa using hx) hy;simp only[iy,dc]at this;exact this.imp (a j i) λh=>h
 ·rcases b i x hx with⟨rfl,_⟩ | ⟨Q,k,z⟩
  ·exact .inr (by simp[o6,keys])
  ·rcases b j y hy with⟨rfl,_⟩ | ⟨W,V,T⟩
   ·exact .inr (by simp[o6,keys])
   ·have hx':=I (i - kk) x z;have hy':=I (j - kk) y T;rw[show kk+(i - kk)=i by omega]at hx';rw[show kk+(j - kk)=j by omega]at hy';rcases hx' with E | ⟨D,u⟩
    ·rcases hy' with G | ⟨A,v⟩
     ·by_cases f:(x.rd=[]/\x.wr=[])
      ·exact .inr (by simp[f.1,f.2,keys])
      ·by_cases g:(y.rd=[]/\y.wr=[])
       ·exact .inr (by simp[g.1,g.2,keys])
       ·have m1:(⟨i,x.rd,keys x.wr⟩:TE)∈trf.filter λx=>!(x.rd.isEmpty&&x.ws.isEmpty):=by
         refine mW.2 ⟨E,?_⟩;simp only[keys,kC,C5,AG];rcases fS9 (x.rd=[])with h | h
         ·exact .inr (by simpa usingλF=>f ⟨h,F⟩)
         ·exact .inl h
        have m2:(⟨j,y.rd,keys y.wr⟩:TE)∈trf.filter λx=>!(x.rd.isEmpty&&x.ws.isEmpty):=by
         refine mW.2 ⟨G,?_⟩;simp only[keys,kC,C5,AG];rcases fS9 (y.rd=[])with h | h
         ·exact .inr (by simpa usingλF=>g ⟨h,F⟩)
         ·exact .inl h
        have:=Bz (pG w _ m1 _ m2 c) c;exact this.imp (a j i) λh=>h
     ·exact .inr (by simp[A,v,keys])
    ·exact .inr (by simp[D,u,keys])
def Inv.grow{n:Nat}{ι0 ι:Inj}{w0:Base}{s:St}{a:Act}{w:World}(h:Inv n ι0 w0 ι s a w)(m:Nat):Inv n ι0 w0 ι { s with nb:=s.nb+m } a w:=
 ⟨h.size,h.defers,h.tmps,⟨h.mem.inj,λb r C=>by have:=h.mem.low b r C;simp only;omega,h.mem.dom,h.mem.blk⟩,h.ext,h.new,h.fr,h.low,h.fz,h.gl⟩
def BQ{ops:List Oper}(h:Qn ops=true):Region.noSelect ops.toArray=true:=by
 unfold Qn at h;unfold Region.noSelect;rw[List.all_toArray,cq];rw[cq]at h;intro o b;have:=h o b;cases a:o.op<;>simp_all
def IR{α:Type}{E:List Ent}(hE:∀x∈E,fK P x){n:Nat}{ops:List Oper}{lim:Nat}{s:St}{k:Ex->St->Option α}{z:α}(h:Iz P E n ops lim s k=some z)(id:Nat):
  SemC P n (.region id ops.toArray true) s λex s'=>k ex s'=some z:=by
 intro ι0 w0 ι a w hI;unfold Iz at h;simp only at h;generalize hkk:Lu (getN (kD ops []) lim) lim lim 0=kk at h;split at h
 case h_2=>cases h
 rename_i R;simp only[aB,EY,RG]at R;obtain⟨⟨K,Y,hb3⟩,hmix,l,M,C,hup,t⟩:=R;have l:lim<ops.length:=aG l;have M:=aG M;have g:=o9 ops ops [] (by simp) (λj i hb=>by simp[getN]at hb);have hI1:Inv n ι0 w0 ι { s with nb:=s.nb+8*ops.length } a { w with drawn:=w.drawn+1 }:=(hI.drawn (w.drawn+1)).grow _;let Q:Exit->Act->World->Prop:=λe a w=>e=.normal/\∃s' D,Inv n ι0 w0 D s' a w/\k .normal s'=some z;refine sR (λe a w (hq:Q e a w)=>?_) (wp_region_any (Q:=Q) hmix ?_)
 ·obtain⟨rfl,s',D,q,L⟩:=hq;exact⟨.normal,s',D,rfl,q,L⟩
 have hD0:∀i,Dn (Array.replicate ops.length false) i=false:=by
  intro i;unfold Dn;simp only[qg,Tv];split<;>rfl
 have hsz:ops.toArray.size=(ops.length - kk)+kk:=by simp;omega
 rw[hsz,show Array.replicate ((ops.length - kk)+kk) false=Array.replicate ops.length false by rw[Nat.sub_add_cancel (by omega)]];refine GF (BQ hb3) (λc a w hq=>by cases hq.1) kk 0 _ _ a C (by simp) (by omega) (λj Z=>by omega) (λj _=>hD0 j) hI1 (by rw[cg];exact h) λs0 a0 f h hI0 J hs0 B y=>?_;simp only[dc]at B y;simp only at J;rcases yZ hE ((ops.take lim).drop kk) kk s0 [] (by simp;omega) h with⟨recs,sf,trf,g1,G,g3,_,g5,g6⟩ | ⟨p,po,recs,sf,sp,trf,v,wr,rp,_,_,_,_,_,_,G,_⟩
 case inr=>cases G
 split at G
 case h_2=>cases G
 rename_i htr;have hl1:recs.length=lim - kk:=by rw[g1];simp;omega
 have hmid:∀j,j<lim - kk->((ops.take lim).drop kk)[j]?=ops[kk+j]?:=λj Z=>by
  rw[mX,Jf,ae (by omega)]
 have F:=CS (P:=P) (n:=n) (nb0:=s.nb) (kk:=kk) (ops:=ops) (recs:=recs) (s0:=s0) (trf:=trf) K Y (by omega) J htr g5 (λj o r X hr=>by
  have Z:j<recs.length:=by
   rcases aF j recs.length with h' | h'
   ·exact h'
   ·rw[gC h']at hr;cases hr
  exact g6 j o r (by rw[hmid j (by omega)];exact X) hr)
 split at G
 case h_2=>cases G
 rename_i o hoa;split at G
 case h_2=>cases G
 rename_i hga;have S:appD 0 (List.replicate kk o6++(recs++List.replicate (ops.length - (kk+recs.length)) o6)) (Dn f) s0=s0:=by
  rw[og,mQ,mP];exact vC recs _ _ _ λj _=>y _ (by omega)
 have hcnt:∀m,((List.range m).filter λi=>!Dn f i).length<=m - kk:=by
  intro m
  induction m with
  | zero=>simp
  | succ m ih=>
   rw[List.range_succ,Ii,bW];rcases aF m kk with hm | hm
   ·have:([m].filter λi=>!Dn f i)=[]:=by simp[B m hm]
    rw[this,iy];omega
   ·have:([m].filter λi=>!Dn f i).length<=1:=by simpa using List.length_filter_le (λi=>!Dn f i) [m]
    omega
 refine NM F (lim:=lim) (kk:=kk) l (λj q L=>⟨⟨q,by omega⟩,g lim j (oq hup j q (by omega))⟩) (λj q L=>g j lim (oq t j q (by omega))) (λfuel d ι1 a1 w1 hs1 I hn1 hdn0 hdn1 hI2 hc1=>?_) _ f ι a0 _ hs0 B (λj o' e X H he hb=>?_) (y lim M) (by rw[S];exact hI0) (λi hi hni b V W=>hI.fresh b (by omega)) (hcnt _)
 ·
  have hD1:appD 0 (List.replicate kk o6++(recs++List.replicate (ops.length - (kk+recs.length)) o6)) (Dn d) s0=recs.foldl St.put s0:=by
   rw[og,mQ,mP];exact zY recs _ _ _ λj Z=>I _ (by omega)
  rw[hD1]at hI2;have U:=hI2.eqv g3.symm;have hoa':ops.toArray[lim]?=some o:=by simpa using hoa
  unfold wpOp;rw[hoa'];simp only;rw[ae (by simp[Region.wanted,hga])];refine .inl (zf hE U (λb hb=>U.fresh b hb) (aQ _) G (λA ι2 a2 w2 L hI4=>?_) (λv s' D x a' w' hk=>by cases hk));rcases yZ hE (ops.drop (lim+1)) (lim+1) { A with nb:=A.nb+8*ops.length } [] (by simp;omega) L with⟨recs2,sf2,trf2,q1,q2,q3,_,q5,q6⟩ | ⟨p,po,recs2,sf2,sp2,trf2,v,wr,rp,_,_,_,_,_,_,q2,_⟩
  case inr=>cases q2
  split at q2
  case h_2=>cases q2
  rename_i htr2;have hl2:recs2.length=ops.length - (lim+1):=by rw[q1];simp
  have F2:=CS (P:=P) (n:=n) (nb0:=A.nb) (kk:=lim+1) (ops:=ops) (recs:=recs2) (s0:={ A with nb:=A.nb+8*ops.length }) (trf:=trf2) K Y (by omega) rfl htr2 q5 (λj o r X hr=>q6 j o r (by rw[mX];exact X) hr);have hlt:lim<d.size:=by omega
  have u:Dn (d.setIfInBounds lim true)=λj=>if j=lim then true else Dn d j:=by
   funext j;exact xR hlt j
  have hund:∀j,lim<j->j<ops.length->Dn (d.setIfInBounds lim true) j=false:=by
   intro j q L;rw[u];simp only[show¬j=lim by omega,aC];cases H:Dn d j with
   | false=>rfl
   | true=>
    have:=g j lim (oq t j q (by omega)) _ hdn0 H;rw[hn1]at this;cases this
  have hfin:∀O a3 w3,Inv n ι0 w0 O ((List.replicate (lim+1) o6++(recs2++List.replicate (ops.length - (lim+1+recs2.length)) o6)).foldl St.put { A with nb:=A.nb+8*ops.length }) a3 w3->Q .normal a3 w3:=by
   intro O a3 w3 hI5;rw[Gk,Gk,pP,pP]at hI5;exact⟨rfl,sf2,O,hI5.eqv q3.symm,q2⟩
  have N:∀j,j<lim+1->Dn (d.setIfInBounds lim true) j=true:=by
   intro j Z;rw[u];by_cases h:j=lim
   ·simp[h]
   ·simp only[h,aC];exact I j (by omega)
  have hI6:Inv n ι0 w0 ι2 (appD 0 (List.replicate (lim+1) o6++(recs2++List.replicate (ops.length - (lim+1+recs2.length)) o6)) (Dn (d.setIfInBounds lim true)) { A with nb:=A.nb+8*ops.length }) a2 w2:=by
   rw[og,mQ,mP,vC recs2 _ _ _ λj Z=>hund _ (by omega) (by omega)];exact hI4.grow _
  have hc2:((List.range ops.length).filter λj=>!Dn (d.setIfInBounds lim true) j).length<=fuel:=by
   have:((List.range ops.length).filter λj=>!Dn (d.setIfInBounds lim true) j).length<((List.range ops.length).filter λj=>!Dn d j).length:=by
    rw[u];have T:((List.range ops.length).filter λj=>!(if j=lim then true else Dn d j))=((List.range ops.length).filter λj=>!Dn d j).filter λj=>decide (j≠lim):=by
     rw[Fq];congr 1;funext j;by_cases hji:j=lim<;>simp[hji]
    rw[T];refine zi.2 ⟨lim,by simp[l,hn1],by simp⟩
   omega
  exact A7 F2 (ι0:=ι0) (w0:=w0) (kk:=lim+1) (λj q L=>⟨q,by omega⟩) hfin fuel _ ι2 a2 w2 (by simpa using hs1) N hdn1 hI6 (λi hi hni b V W=>hI4.fresh b (by omega)) hc2
 ·have q:=jp ops 0 K j o' e X he hb;refine B _ ?_;rcases aF j kk with h | h
  ·omega
  ·rw[y j h]at H;cases H
def Of{α:Type}{E:List Ent}(a:∀x∈E,fK P x){n:Nat}{ops:List Oper}{s:St}{k:Ex->St->Option α}{z:α}(h:Rh P E n ops s k=some z)(id:Nat):
  SemC P n (.region id ops.toArray true) s λex s'=>k ex s'=some z:=by
 unfold Rh at h;split at h
 ·exact Hg a h id
 ·exact IR a h id
end Go.Abs
