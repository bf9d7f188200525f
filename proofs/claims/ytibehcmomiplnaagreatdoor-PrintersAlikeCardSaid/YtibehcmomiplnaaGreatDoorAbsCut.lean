
import Derived.Test.YtibehcmomiplnaaGreatDoorAbsV
set_option linter.unusedSimpArgs false
set_option linter.unusedVariables false
set_option linter.defProp false
namespace Go.Abs
variable {P:Program}
def qW{f:Nat->Bool}:∀{r i:Nat},um f r i=true->∀j,i<=j->j<i+r->f j=true
 | 0,_,_,j,_,_=>by omega
 | r+1,i,h,j,b,c=>by
  simp only[um,aA]at h;by_cases a:j=i
  ·rw[a];exact h.1
  ·exact qW h.2 j (by omega) (by omega)
def D7{n:Nat}{ops:Array Oper}{r i:Nat}{a:Array Bool}(h:vw n ops (r+1) i a=true):
  ∃o x,ops[i]?=some o/\o.op=.move x/\o.guard=none/\vJ n o.dst=true/\Region.free .any ops a i=true/\(Region.ready .any ops a).contains i=true/\vw n ops r (i+1) (a.setIfInBounds i true)=true:=by
 simp only[vw,aA]at h;obtain⟨b,j,d,k⟩:=h;split at b
 ·rename_i o f;simp only[aA]at b;obtain⟨c,g,e⟩:=b;split at c
  ·rename_i x hx;exact⟨o,x,f,hx,by simpa using g,e,j,d,k⟩
  ·cases c
 ·cases b
def Jr{α:Type}{n:Nat}{ops:List Oper}(f:Region.noSelect ops.toArray=true){ι0:Inj}{w0:Base}{ι:Inj}{w:World}{Q:Exit->Act->World->Prop}(D:∀c a w,¬Q (.panic c) a w){fuel:Nat}{k:St->Option α}{z:α}:
  ∀(r i:Nat) (b:Array Bool) (s:St) (a:Act),vw n ops.toArray r i b=true->b.size=ops.length->i+r<=ops.length->(∀j,j<i->Dn b j=true)->(∀j,i<=j->Dn b j=false)->Inv n ι0 w0 ι s a w->
   runM ((ops.drop i).take r) s k=some z->
   (∀(s':St) (m:Act) (d:Array Bool),k s'=some z->Inv n ι0 w0 ι s' m w->s'.nb=s.nb->d.size=ops.length->(∀j,j<i+r->Dn d j=true)->(∀j,i+r<=j->Dn d j=false)->wpAny P .any ops.toArray Q fuel d m w)->
   wpAny P .any ops.toArray Q (fuel+r) b a w
 | 0,i,b,s,a,_,hs,_,q,B,e,h,t=>by
  simp only[nr,runM]at h;exact t s a b h e rfl hs (by simpa using q) (by simpa using B)
 | r+1,i,b,s,a,R,hs,F,q,B,e,h,t=>by
  obtain⟨o,x,C,hx,L,I,O,K,A⟩:=D7 R;have ho':ops[i]?=some o:=by simpa using C
  have g:(ops.drop i).take (r+1)=o::(ops.drop (i+1)).take r:=by
   have hi:i<ops.length:=by omega
   rw[bq hi]at ho';simp only[ar]at ho';rw[uN hi,nq,ho']
  rw[g]at h;simp only[runM,hx]at h;obtain⟨u,M,h⟩:=ax h;have S:=bv e.tmps M;have hy:Yields P ops.toArray o (a.eval x) a:=.inl ⟨by simp[Region.wanted,L],λw=>by simp[execOp,hx]⟩;have hI':Inv n ι0 w0 ι (s.app o.dst (some u) [] s.nb) (a.put o.dst (a.eval x)) w:=
   ⟨by rw[nM];exact e.size,by rw[jU];exact e.defers,e.tmps.app e.size I (λv p=>by cases p;exact S),e.mem,e.ext,e.new,e.fr,e.low,e.fz,e.gl⟩
  refine wpAny_take (fuel:=fuel+r) C f O K (λc a w h=>absurd h (D c _ w)) hy ?_;have l:i<b.size:=by omega
  refine Jr f D r (i+1) _ _ _ A (by simpa using hs) (by omega) (λj y=>?_) (λj y=>?_) hI' h λs' m d E H J G N T=>t s' m d E H J G (λj y=>N j (by omega)) (λj y=>T j (by omega))
  ·rw[Aa l];split
   ·rfl
   ·exact q j (by omega)
  ·rw[Aa l,ae (by omega)];exact B j (by omega)
def qL:Rec:=⟨none,none,[],[]⟩
def xl(s:St):s.put qL=s:=rfl
def pE:∀(m i:Nat) (l:List Rec) (D:Nat->Bool) (s:St),appD i (List.replicate m qL++l) D s=appD (i+m) l D s
 | 0,i,l,D,s=>by simp
 | m+1,i,l,D,s=>by
  rw[tC,eX];simp only[appD,xl,ite_self];rw[pE m (i+1) l D s,show i+1+m=i+(m+1)by omega]
def ot:∀(m i:Nat) (D:Nat->Bool) (s:St),appD i (List.replicate m qL) D s=s
 | 0,i,D,s=>rfl
 | m+1,i,D,s=>by
  rw[tC];simp only[appD,xl,ite_self];exact ot m (i+1) D s
def ov:∀(l m:List Rec) (i:Nat) (D:Nat->Bool) (s:St),appD i (l++m) D s=appD (i+l.length) m D (appD i l D s)
 | [],m,i,D,s=>by simp[appD]
 | r::l,m,i,D,s=>by
  simp only[eX,appD,aC];rw[ov l m (i+1)];rw[show i+1+l.length=i+(l.length+1)by omega]
def xm:∀(l:List Rec) (i:Nat) (D:Nat->Bool) (s:St),(∀j,j<l.length->D (i+j)=false)->appD i l D s=s
 | [],i,D,s,_=>rfl
 | r::l,i,D,s,h=>by
  have a:=h 0 (by simp);simp only[dP]at a;simp only[appD,a,bU,aG];exact xm l (i+1) D s λj b=>by have:=h (j+1) (by simpa using b);rwa[show i+(j+1)=i+1+j by omega]at this
def rH:∀(m:Nat) (s:St),(List.replicate m qL).foldl St.put s=s
 | 0,_=>rfl
 | m+1,s=>by rw[tC,vW,xl];exact rH m s
def Dv{n nb0 kk:Nat}{ops:List Oper}{recs:List Rec}{s0:St}{trf:List TE}(v:rX 0 ops=true)(H:uB ops.toArray (lS ops []) 0 [] ops=true)
  (I:kk+recs.length<=ops.length) (z:s0.nb=nb0+8*ops.length) (A:qN (lS ops []) (trf.filter λx=>!(x.rd.isEmpty&&x.ws.isEmpty))=true)
  (J:∀j r,recs[j]?=some r->(⟨kk+j,r.rd,keys r.wr⟩:TE)∈trf\/(r.rd=[]/\r.wr=[]))
  (U:∀(j:Nat) (o:Oper) (r:Rec),ops[kk+j]?=some o->recs[j]?=some r->r.dst=o.dst/\vt P n nb0 ops (kk+j) o r ((recs.take j).foldl St.put s0)):
  DrawFacts P n nb0 ops (List.replicate kk qL++(recs++List.replicate (ops.length - (kk+recs.length)) qL)) s0 (λj=>kk<=j/\j<kk+recs.length):=by
 have a:=qs ops ops [] (by simp) (λj i D=>by simp[getN]at D);have b:∀(j:Nat) (r:Rec),(List.replicate kk qL++(recs++List.replicate (ops.length - (kk+recs.length)) qL))[j]?=some r->(r=qL/\¬(kk<=j/\j<kk+recs.length))\/(kk<=j/\j<kk+recs.length/\recs[j - kk]?=some r):=by
  intro j r d;rcases aN j kk with h | h
  ·rw[om (by simpa using h)]at d;exact .inl ⟨(List.mem_replicate.1 (fh d)).2,by omega⟩
  ·rw[rf (by simpa using h)]at d;simp only[List.length_replicate]at d;rcases aN (j - kk) recs.length with k | k
   ·rw[om k]at d;exact .inr ⟨h,by omega,d⟩
   ·rw[rf k]at d;exact .inl ⟨(List.mem_replicate.1 (fh d)).2,by omega⟩
 refine⟨by simp;omega,z,λj o r q R=>?_,λj o e q M D=>?_,λi j x y c hx hy=>?_,λi j x y c hx hy=>?_⟩
 ·rcases b j r R with⟨rfl,E⟩ | ⟨N,k,G⟩
  ·exact⟨λt u=>(by cases u),λT=>absurd T E⟩
  ·obtain⟨S,L⟩:=U (j - kk) o r (by rw[show kk+(j - kk)=j by omega];exact q) G;rw[show kk+(j - kk)=j by omega]at L;refine⟨λt u=>S▸u,λ_=>L.eqv ?_⟩;rw[pE,ov];have K:=rB recs (0+kk) (j - kk) s0;have Q:appD (0+kk) recs (λm=>decide (m<0+kk+(j - kk))) s0=appD (0+kk) recs (λm=>decide (m<j)) s0:=by rw[show 0+kk+(j - kk)=j by omega]
   rw[Q]at K;rw[ot];exact K
 ·have:=km ops 0 v j o e q M D;omega
 ·have:=nP (masks:=lS ops []) ops [] H i j x y (by simpa using c) (by simpa using hx) hy;simp only[aX,cU]at this;exact this.imp (a j i) λh=>h
 ·rcases b i x hx with⟨rfl,_⟩ | ⟨N,k,G⟩
  ·exact .inr (by simp[qL,keys])
  ·rcases b j y hy with⟨rfl,_⟩ | ⟨W,V,O⟩
   ·exact .inr (by simp[qL,keys])
   ·have hx':=J (i - kk) x G;have hy':=J (j - kk) y O;rw[show kk+(i - kk)=i by omega]at hx';rw[show kk+(j - kk)=j by omega]at hy';rcases hx' with p | ⟨F,B⟩
    ·rcases hy' with w | ⟨C,s⟩
     ·by_cases f:(x.rd=[]/\x.wr=[])
      ·exact .inr (by simp[f.1,f.2,keys])
      ·by_cases g:(y.rd=[]/\y.wr=[])
       ·exact .inr (by simp[g.1,g.2,keys])
       ·have m1:(⟨i,x.rd,keys x.wr⟩:TE)∈trf.filter λx=>!(x.rd.isEmpty&&x.ws.isEmpty):=by
         refine mf.2 ⟨p,?_⟩;simp only[keys,kv,Jd,Dk];rcases HH (x.rd=[])with h | h
         ·exact .inr (by simpa usingλl=>f ⟨h,l⟩)
         ·exact .inl h
        have m2:(⟨j,y.rd,keys y.wr⟩:TE)∈trf.filter λx=>!(x.rd.isEmpty&&x.ws.isEmpty):=by
         refine mf.2 ⟨w,?_⟩;simp only[keys,kv,Jd,Dk];rcases HH (y.rd=[])with h | h
         ·exact .inr (by simpa usingλl=>g ⟨h,l⟩)
         ·exact .inl h
        have:=DY (sc A _ m1 _ m2 c) c;exact this.imp (a j i) λh=>h
     ·exact .inr (by simp[C,s,keys])
    ·exact .inr (by simp[F,B,keys])
def Inv.grow{n:Nat}{ι0 ι:Inj}{w0:Base}{s:St}{a:Act}{w:World}(h:Inv n ι0 w0 ι s a w)(m:Nat):Inv n ι0 w0 ι { s with nb:=s.nb+m } a w:=
 ⟨h.size,h.defers,h.tmps,⟨h.mem.inj,λb r C=>by have:=h.mem.low b r C;simp only;omega,h.mem.dom,h.mem.blk⟩,h.ext,h.new,h.fr,h.low,h.fz,h.gl⟩
def Fq{ops:List Oper}(h:US ops=true):Region.noSelect ops.toArray=true:=by
 unfold US at h;unfold Region.noSelect;rw[List.all_toArray,bO];rw[bO]at h;intro o b;have:=h o b;cases a:o.op<;>simp_all
def Pz{α:Type}{E:List Ent}(hE:∀x∈E,fQ P x){n:Nat}{ops:List Oper}{lim:Nat}{s:St}{k:Ex->St->Option α}{z:α}(h:Nx P E n ops lim s k=some z)(id:Nat):
  SemC P n (.region id ops.toArray true) s λex s'=>k ex s'=some z:=by
 intro ι0 w0 ι a w hI;unfold Nx at h;simp only at h;generalize hkk:OO (getN (lS ops []) lim) lim lim 0=kk at h;split at h
 case h_2=>cases h
 rename_i R;simp only[aA,Ic,VX]at R;obtain⟨⟨K,hb2,hb3⟩,S,l,M,G,hup,t⟩:=R;have l:lim<ops.length:=aM l;have M:=aM M;have g:=qs ops ops [] (by simp) (λj i hb=>by simp[getN]at hb);have hI1:Inv n ι0 w0 ι { s with nb:=s.nb+8*ops.length } a { w with drawn:=w.drawn+1 }:=(hI.drawn (w.drawn+1)).grow _;let Q:Exit->Act->World->Prop:=λe a w=>e=.normal/\∃s' y,Inv n ι0 w0 y s' a w/\k .normal s'=some z;refine uV (λe a w (hq:Q e a w)=>?_) (wp_region_any (Q:=Q) S ?_)
 ·obtain⟨rfl,s',y,u,O⟩:=hq;exact⟨.normal,s',y,rfl,u,O⟩
 have hD0:∀i,Dn (Array.replicate ops.length false) i=false:=by
  intro i;unfold Dn;simp only[rj,Xb];split<;>rfl
 have hsz:ops.toArray.size=(ops.length - kk)+kk:=by simp;omega
 rw[hsz,show Array.replicate ((ops.length - kk)+kk) false=Array.replicate ops.length false by rw[Nat.sub_add_cancel (by omega)]];refine Jr (Fq hb3) (λc a w hq=>by cases hq.1) kk 0 _ _ a G (by simp) (by omega) (λj hj=>by omega) (λj _=>hD0 j) hI1 (by rw[dk];exact h) λs0 a0 f h hI0 I hs0 B C=>?_;simp only[cU]at B C;simp only at I;rcases Cj hE ((ops.take lim).drop kk) kk s0 [] (by simp;omega) h with⟨recs,sf,trf,g1,H,g3,_,g5,g6⟩ | ⟨p,po,recs,sf,sp,trf,v,wr,rp,_,_,_,_,_,_,H,_⟩
 case inr=>cases H
 split at H
 case h_2=>cases H
 rename_i htr;have hl1:recs.length=lim - kk:=by rw[g1];simp;omega
 have Z:∀j,j<lim - kk->((ops.take lim).drop kk)[j]?=ops[kk+j]?:=λj hj=>by
  rw[lW,MZ,af (by omega)]
 have F:=Dv (P:=P) (n:=n) (nb0:=s.nb) (kk:=kk) (ops:=ops) (recs:=recs) (s0:=s0) (trf:=trf) K hb2 (by omega) I htr g5 (λj o r T U=>by
  have hj:j<recs.length:=by
   rcases aN j recs.length with h' | h'
   ·exact h'
   ·rw[gh h']at U;cases U
  exact g6 j o r (by rw[Z j (by omega)];exact T) U)
 split at H
 case h_2=>cases H
 rename_i o hoa;split at H
 case h_2=>cases H
 rename_i hga;have hst0:appD 0 (List.replicate kk qL++(recs++List.replicate (ops.length - (kk+recs.length)) qL)) (Dn f) s0=s0:=by
  rw[pE,ov,ot];exact xm recs _ _ _ λj _=>C _ (by omega)
 have hcnt:∀m,((List.range m).filter λi=>!Dn f i).length<=m - kk:=by
  intro m
  induction m with
  | zero=>simp
  | succ m ih=>
   rw[List.range_succ,Pv,aH];rcases aN m kk with hm | hm
   ·have:([m].filter λi=>!Dn f i)=[]:=by simp[B m hm]
    rw[this,aX];omega
   ·have:([m].filter λi=>!Dn f i).length<=1:=by simpa using List.length_filter_le (λi=>!Dn f i) [m]
    omega
 refine P0 F (lim:=lim) (kk:=kk) l (λj u O=>⟨⟨u,by omega⟩,g lim j (qW hup j u (by omega))⟩) (λj u O=>g j lim (qW t j u (by omega))) (λfuel d ι1 a1 w1 hs1 J X hdn0 hdn1 hI2 hc1=>?_) _ f ι a0 _ hs0 B (λj o' e T D he hb=>?_) (C lim M) (by rw[hst0];exact hI0) (λi hi hni b hb1' hb2'=>hI.fresh b (by omega)) (hcnt _)
 ·
  have hD1:appD 0 (List.replicate kk qL++(recs++List.replicate (ops.length - (kk+recs.length)) qL)) (Dn d) s0=recs.foldl St.put s0:=by
   rw[pE,ov,ot];exact BK recs _ _ _ λj hj=>J _ (by omega)
  rw[hD1]at hI2;have V:=hI2.eqv g3.symm;have hoa':ops.toArray[lim]?=some o:=by simpa using hoa
  unfold wpOp;rw[hoa'];simp only;rw[af (by simp[Region.wanted,hga])];refine .inl (BL hE V (λb hb=>V.fresh b hb) (bg _) H (λA ι2 a2 w2 O hI4=>?_) (λv s' y x a' w' hk=>by cases hk));rcases Cj hE (ops.drop (lim+1)) (lim+1) { A with nb:=A.nb+8*ops.length } [] (by simp;omega) O with⟨recs2,sf2,trf2,q1,q2,q3,_,q5,q6⟩ | ⟨p,po,recs2,sf2,sp2,trf2,v,wr,rp,_,_,_,_,_,_,q2,_⟩
  case inr=>cases q2
  split at q2
  case h_2=>cases q2
  rename_i htr2;have hl2:recs2.length=ops.length - (lim+1):=by rw[q1];simp
  have F2:=Dv (P:=P) (n:=n) (nb0:=A.nb) (kk:=lim+1) (ops:=ops) (recs:=recs2) (s0:={ A with nb:=A.nb+8*ops.length }) (trf:=trf2) K hb2 (by omega) rfl htr2 q5 (λj o r T U=>q6 j o r (by rw[lW];exact T) U);have hlt:lim<d.size:=by omega
  have q:Dn (d.setIfInBounds lim true)=λj=>if j=lim then true else Dn d j:=by
   funext j;exact Aa hlt j
  have hund:∀j,lim<j->j<ops.length->Dn (d.setIfInBounds lim true) j=false:=by
   intro j u O;rw[q];simp only[show¬j=lim by omega,aG];cases D:Dn d j with
   | false=>rfl
   | true=>
    have:=g j lim (qW t j u (by omega)) _ hdn0 D;rw[X]at this;cases this
  have hfin:∀L a3 w3,Inv n ι0 w0 L ((List.replicate (lim+1) qL++(recs2++List.replicate (ops.length - (lim+1+recs2.length)) qL)).foldl St.put { A with nb:=A.nb+8*ops.length }) a3 w3->Q .normal a3 w3:=by
   intro L a3 w3 W;rw[Ji,Ji,rH,rH]at W;exact⟨rfl,sf2,L,W.eqv q3.symm,q2⟩
  have N:∀j,j<lim+1->Dn (d.setIfInBounds lim true) j=true:=by
   intro j hj;rw[q];by_cases h:j=lim
   ·simp[h]
   ·simp only[h,aG];exact J j (by omega)
  have hI6:Inv n ι0 w0 ι2 (appD 0 (List.replicate (lim+1) qL++(recs2++List.replicate (ops.length - (lim+1+recs2.length)) qL)) (Dn (d.setIfInBounds lim true)) { A with nb:=A.nb+8*ops.length }) a2 w2:=by
   rw[pE,ov,ot,xm recs2 _ _ _ λj hj=>hund _ (by omega) (by omega)];exact hI4.grow _
  have hc2:((List.range ops.length).filter λj=>!Dn (d.setIfInBounds lim true) j).length<=fuel:=by
   have:((List.range ops.length).filter λj=>!Dn (d.setIfInBounds lim true) j).length<((List.range ops.length).filter λj=>!Dn d j).length:=by
    rw[q];have Y:((List.range ops.length).filter λj=>!(if j=lim then true else Dn d j))=((List.range ops.length).filter λj=>!Dn d j).filter λj=>decide (j≠lim):=by
     rw[Jw];congr 1;funext j;by_cases hji:j=lim<;>simp[hji]
    rw[Y];refine A7.2 ⟨lim,by simp[l,X],by simp⟩
   omega
  exact Eh F2 (ι0:=ι0) (w0:=w0) (kk:=lim+1) (λj u O=>⟨u,by omega⟩) hfin fuel _ ι2 a2 w2 (by simpa using hs1) N hdn1 hI6 (λi hi hni b hb1' hb2'=>hI4.fresh b (by omega)) hc2
 ·have u:=km ops 0 K j o' e T he hb;refine B _ ?_;rcases aN j kk with h | h
  ·omega
  ·rw[C j h]at D;cases D
def QX{α:Type}{E:List Ent}(a:∀x∈E,fQ P x){n:Nat}{ops:List Oper}{s:St}{k:Ex->St->Option α}{z:α}(h:Va P E n ops s k=some z)(id:Nat):
  SemC P n (.region id ops.toArray true) s λex s'=>k ex s'=some z:=by
 unfold Va at h;split at h
 ·exact J9 a h id
 ·exact Pz a h id
end Go.Abs
