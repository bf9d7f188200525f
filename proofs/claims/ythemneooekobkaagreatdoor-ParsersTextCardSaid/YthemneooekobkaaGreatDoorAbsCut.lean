
/- A region that draws its order, with an append in its middle.
   Conditions: none; generic over the program. -/
import Derived.Test.YthemneooekobkaaGreatDoorAbsV
set_option linter.unusedSimpArgs false
set_option linter.unusedVariables false
namespace Go.Abs
variable {P:Program}
theorem pW {f:Nat->Bool}:∀{r i:Nat},tZ f r i=true->∀j,i<=j->j<i+r->f j=true
 | 0,_,_,j,_,_=>by omega
 | r+1,i,h,j,c,b=>by
  simp only [tZ,aD] at h;by_cases a:j=i
  ·rw [a];exact h.1
  ·exact pW h.2 j (by omega) (by omega)
theorem Du {n:Nat} {ops:Array Oper} {r i:Nat} {a:Array Bool} (h:vp n ops (r+1) i a=true):
  ∃o x,ops[i]?=some o/\o.op=.move x/\o.guard=none/\vt n o.dst=true/\Region.free .any ops a i=true/\(Region.ready .any ops a).contains i=true/\vp n ops r (i+1) (a.setIfInBounds i true)=true:=by
 simp only [vp,aD] at h;obtain ⟨b,e,g,j⟩:=h;split at b
 ·rename_i o f;simp only [aD] at b;obtain ⟨c,k,d⟩:=b;split at c
  ·rename_i x hx;exact ⟨o,x,f,hx,by simpa using k,d,e,g,j⟩
  ·cases c
 ·cases b
theorem II {α:Type} {n:Nat} {ops:List Oper} (f:Region.noSelect ops.toArray=true) {ι0:Inj} {w0:Base} {ι:Inj} {w:World} {Q:Exit->Act->World->Prop} (C:∀c a w,¬Q (.panic c) a w) {fuel:Nat} {k:St->Option α} {z:α}:
  ∀(r i:Nat) (b:Array Bool) (s:St) (a:Act),vp n ops.toArray r i b=true->b.size=ops.length->i+r<=ops.length->(∀j,j<i->Dn b j=true)->(∀j,i<=j->Dn b j=false)->Inv n ι0 w0 ι s a w->
   runM ((ops.drop i).take r) s k=some z->
   (∀(s':St) (m:Act) (d:Array Bool),k s'=some z->Inv n ι0 w0 ι s' m w->s'.nb=s.nb->d.size=ops.length->(∀j,j<i+r->Dn d j=true)->(∀j,i+r<=j->Dn d j=false)->wpAny P .any ops.toArray Q fuel d m w)->
   wpAny P .any ops.toArray Q (fuel+r) b a w
 | 0,i,b,s,a,_,hs,_,p,B,e,h,y=>by
  simp only [oC,runM] at h;exact y s a b h e rfl hs (by simpa using p) (by simpa using B)
 | r+1,i,b,s,a,M,hs,E,p,B,e,h,y=>by
  obtain ⟨o,x,D,hx,S,G,O,I,A⟩:=Du M;have ho':ops[i]?=some o:=by simpa using D
  have g:(ops.drop i).take (r+1)=o::(ops.drop (i+1)).take r:=by
   have hi:i<ops.length:=by omega
   rw [aW hi] at ho';simp only [aw] at ho';rw [pE hi,oI,ho']
  rw [g] at h;simp only [runM,hx] at h;obtain ⟨u,K,h⟩:=ay h;have F:=bu e.tmps K;have hy:Yields P ops.toArray o (a.eval x) a:=.inl ⟨by simp [Region.wanted,S],λw=>by simp [execOp,hx]⟩;have hI':Inv n ι0 w0 ι (s.app o.dst (some u) [] s.nb) (a.put o.dst (a.eval x)) w:=
   ⟨by rw [nh];exact e.size,by rw [jO];exact e.defers,e.tmps.app e.size G (λv t=>by cases t;exact F),e.mem,e.ext,e.new,e.fr,e.low,e.fz,e.gl⟩
  refine wpAny_take (fuel:=fuel+r) D f O I (λc a w h=>absurd h (C c _ w)) hy ?_;have l:i<b.size:=by omega
  refine II f C r (i+1) _ _ _ A (by simpa using hs) (by omega) (λj q=>?_) (λj q=>?_) hI' h λs' m d H J N R L T=>y s' m d H J N R (λj q=>L j (by omega)) (λj q=>T j (by omega))
  ·rw [Am l];split
   ·rfl
   ·exact p j (by omega)
  ·rw [Am l,ab (by omega)];exact B j (by omega)
def qa:Rec:=⟨none,none,[],[]⟩
theorem xJ (s:St):s.put qa=s:=rfl
theorem pM:∀(m i:Nat) (l:List Rec) (D:Nat->Bool) (s:St),appD i (List.replicate m qa++l) D s=appD (i+m) l D s
 | 0,i,l,D,s=>by simp
 | m+1,i,l,D,s=>by
  rw [vc,eK];simp only [appD,xJ,ite_self];rw [pM m (i+1) l D s,show i+1+m=i+(m+1) by omega]
theorem oc:∀(m i:Nat) (D:Nat->Bool) (s:St),appD i (List.replicate m qa) D s=s
 | 0,i,D,s=>rfl
 | m+1,i,D,s=>by
  rw [vc];simp only [appD,xJ,ite_self];exact oc m (i+1) D s
theorem nD:∀(l m:List Rec) (i:Nat) (D:Nat->Bool) (s:St),appD i (l++m) D s=appD (i+l.length) m D (appD i l D s)
 | [],m,i,D,s=>by simp [appD]
 | r::l,m,i,D,s=>by
  simp only [eK,appD,aV];rw [nD l m (i+1)];rw [show i+1+l.length=i+(l.length+1) by omega]
theorem xn:∀(l:List Rec) (i:Nat) (D:Nat->Bool) (s:St),(∀j,j<l.length->D (i+j)=false)->appD i l D s=s
 | [],i,D,s,_=>rfl
 | r::l,i,D,s,h=>by
  have a:=h 0 (by simp);simp only [cH] at a;simp only [appD,a,bs,aG];exact xn l (i+1) D s λj b=>by have:=h (j+1) (by simpa using b);rwa [show i+(j+1)=i+1+j by omega] at this
theorem rC:∀(m:Nat) (s:St),(List.replicate m qa).foldl St.put s=s
 | 0,_=>rfl
 | m+1,s=>by rw [vc,vP,xJ];exact rC m s
theorem EO {n nb0 kk:Nat} {ops:List Oper} {recs:List Rec} {s0:St} {trf:List TE} (A:rx 0 ops=true) (v:uK ops.toArray (lh ops []) 0 [] ops=true)
  (J:kk+recs.length<=ops.length) (D:s0.nb=nb0+8*ops.length) (C:qx (lh ops []) (trf.filter λx=>!(x.rd.isEmpty&&x.ws.isEmpty))=true)
  (L:∀j r,recs[j]?=some r->(⟨kk+j,r.rd,keys r.wr⟩:TE)∈trf\/(r.rd=[]/\r.wr=[]))
  (U:∀(j:Nat) (o:Oper) (r:Rec),ops[kk+j]?=some o->recs[j]?=some r->r.dst=o.dst/\uT P n nb0 ops (kk+j) o r ((recs.take j).foldl St.put s0)):
  DrawFacts P n nb0 ops (List.replicate kk qa++(recs++List.replicate (ops.length - (kk+recs.length)) qa)) s0 (λj=>kk<=j/\j<kk+recs.length):=by
 have b:=qz ops ops [] (by simp) (λj i s=>by simp [getN] at s);have a:∀(j:Nat) (r:Rec),(List.replicate kk qa++(recs++List.replicate (ops.length - (kk+recs.length)) qa))[j]?=some r->(r=qa/\¬(kk<=j/\j<kk+recs.length))\/(kk<=j/\j<kk+recs.length/\recs[j - kk]?=some r):=by
  intro j r d;rcases aI j kk with h | h
  ·rw [nT (by simpa using h)] at d;exact .inl ⟨(List.mem_replicate.1 (eW d)).2,by omega⟩
  ·rw [qA (by simpa using h)] at d;simp only [List.length_replicate] at d;rcases aI (j - kk) recs.length with k | k
   ·rw [nT k] at d;exact .inr ⟨h,by omega,d⟩
   ·rw [qA k] at d;exact .inl ⟨(List.mem_replicate.1 (eW d)).2,by omega⟩
 refine ⟨by simp;omega,D,λj o r G R=>?_,λj o e G M s=>?_,λi j x y c hx hy=>?_,λi j x y c hx hy=>?_⟩
 ·rcases a j r R with ⟨rfl,H⟩ | ⟨N,k,B⟩
  ·exact ⟨λt u=>(by cases u),λT=>absurd T H⟩
  ·obtain ⟨O,I⟩:=U (j - kk) o r (by rw [show kk+(j - kk)=j by omega];exact G) B;rw [show kk+(j - kk)=j by omega] at I;refine ⟨λt u=>O▸u,λ_=>I.eqv ?_⟩;rw [pM,nD];have K:=rh recs (0+kk) (j - kk) s0;have S:appD (0+kk) recs (λm=>decide (m<0+kk+(j - kk))) s0=appD (0+kk) recs (λm=>decide (m<j)) s0:=by rw [show 0+kk+(j - kk)=j by omega]
   rw [S] at K;rw [oc];exact K
 ·have:=jW ops 0 A j o e G M s;omega
 ·have:=np (masks:=lh ops []) ops [] v i j x y (by simpa using c) (by simpa using hx) hy;simp only [cG,cX] at this;exact this.imp (b j i) λh=>h
 ·rcases a i x hx with ⟨rfl,_⟩ | ⟨N,k,B⟩
  ·exact .inr (by simp [qa,keys])
  ·rcases a j y hy with ⟨rfl,_⟩ | ⟨V,W,Q⟩
   ·exact .inr (by simp [qa,keys])
   ·have hx':=L (i - kk) x B;have hy':=L (j - kk) y Q;rw [show kk+(i - kk)=i by omega] at hx';rw [show kk+(j - kk)=j by omega] at hy';rcases hx' with F | ⟨z,q⟩
    ·rcases hy' with E | ⟨l,p⟩
     ·by_cases f:(x.rd=[]/\x.wr=[])
      ·exact .inr (by simp [f.1,f.2,keys])
      ·by_cases g:(y.rd=[]/\y.wr=[])
       ·exact .inr (by simp [g.1,g.2,keys])
       ·have m1:(⟨i,x.rd,keys x.wr⟩:TE)∈trf.filter λx=>!(x.rd.isEmpty&&x.ws.isEmpty):=by
         refine lQ.2 ⟨F,?_⟩;simp only [keys,jP,Da,HG];rcases Ib (x.rd=[]) with h | h
         ·exact .inr (by simpa using λw=>f ⟨h,w⟩)
         ·exact .inl h
        have m2:(⟨j,y.rd,keys y.wr⟩:TE)∈trf.filter λx=>!(x.rd.isEmpty&&x.ws.isEmpty):=by
         refine lQ.2 ⟨E,?_⟩;simp only [keys,jP,Da,HG];rcases Ib (y.rd=[]) with h | h
         ·exact .inr (by simpa using λw=>g ⟨h,w⟩)
         ·exact .inl h
        have:=Ds (rL C _ m1 _ m2 c) c;exact this.imp (b j i) λh=>h
     ·exact .inr (by simp [l,p,keys])
    ·exact .inr (by simp [z,q,keys])
theorem Inv.grow {n:Nat} {ι0 ι:Inj} {w0:Base} {s:St} {a:Act} {w:World} (h:Inv n ι0 w0 ι s a w) (m:Nat):Inv n ι0 w0 ι { s with nb:=s.nb+m } a w:=
 ⟨h.size,h.defers,h.tmps,⟨h.mem.inj,λb r C=>by have:=h.mem.low b r C;simp only;omega,h.mem.dom,h.mem.blk⟩,h.ext,h.new,h.fr,h.low,h.fz,h.gl⟩
theorem Ed {ops:List Oper} (h:Tq ops=true):Region.noSelect ops.toArray=true:=by
 unfold Tq at h;unfold Region.noSelect;rw [List.all_toArray,bW];rw [bW] at h;intro o b;have:=h o b;cases a:o.op<;>simp_all
theorem K5 {α:Type} {E:List Ent} (hE:∀x∈E,ge P x) {n:Nat} {ops:List Oper} {lim:Nat} {s:St} {k:Ex->St->Option α} {z:α} (h:OO P E n ops lim s k=some z) (id:Nat):
  SemC P n (.region id ops.toArray true) s λex s'=>k ex s'=some z:=by
 intro ι0 w0 ι a w hI;unfold OO at h;simp only at h;generalize hkk:Nb (getN (lh ops []) lim) lim lim 0=kk at h;split at h
 case h_2=>cases h
 rename_i R;simp only [aD,Hr,VF] at R;obtain ⟨⟨K,hb2,hb3⟩,hmix,l,N,y,hup,u⟩:=R;have l:lim<ops.length:=aN l;have N:=aN N;have g:=qz ops ops [] (by simp) (λj i X=>by simp [getN] at X);have hI1:Inv n ι0 w0 ι { s with nb:=s.nb+8*ops.length } a { w with drawn:=w.drawn+1 }:=(hI.drawn (w.drawn+1)).grow _;let Q:Exit->Act->World->Prop:=λe a w=>e=.normal/\∃s' A,Inv n ι0 w0 A s' a w/\k .normal s'=some z;refine uu (λe a w (hq:Q e a w)=>?_) (wp_region_any (Q:=Q) hmix ?_)
 ·obtain ⟨rfl,s',A,q,L⟩:=hq;exact ⟨.normal,s',A,rfl,q,L⟩
 have hD0:∀i,Dn (Array.replicate ops.length false) i=false:=by
  intro i;unfold Dn;simp only [rt,Xr];split<;>rfl
 have hsz:ops.toArray.size=(ops.length - kk)+kk:=by simp;omega
 rw [hsz,show Array.replicate ((ops.length - kk)+kk) false=Array.replicate ops.length false by rw [Nat.sub_add_cancel (by omega)]];refine II (Ed hb3) (λc a w hq=>by cases hq.1) kk 0 _ _ a y (by simp) (by omega) (λj hj=>by omega) (λj _=>hD0 j) hI1 (by rw [cO];exact h) λs0 a0 f h hI0 I hs0 G H=>?_;simp only [cX] at G H;simp only at I;rcases Ci hE ((ops.take lim).drop kk) kk s0 [] (by simp;omega) h with ⟨recs,sf,trf,g1,D,g3,_,g5,g6⟩ | ⟨p,po,recs,sf,sp,trf,v,wr,rp,_,_,_,_,_,_,D,_⟩
 case inr=>cases D
 split at D
 case h_2=>cases D
 rename_i htr;have hl1:recs.length=lim - kk:=by rw [g1];simp;omega
 have W:∀j,j<lim - kk->((ops.take lim).drop kk)[j]?=ops[kk+j]?:=λj hj=>by
  rw [mw,Oo,ae (by omega)]
 have F:=EO (P:=P) (n:=n) (nb0:=s.nb) (kk:=kk) (ops:=ops) (recs:=recs) (s0:=s0) (trf:=trf) K hb2 (by omega) I htr g5 (λj o r V U=>by
  have hj:j<recs.length:=by
   rcases aI j recs.length with h' | h'
   ·exact h'
   ·rw [fV h'] at U;cases U
  exact g6 j o r (by rw [W j (by omega)];exact V) U)
 split at D
 case h_2=>cases D
 rename_i o hoa;split at D
 case h_2=>cases D
 rename_i hga;have hst0:appD 0 (List.replicate kk qa++(recs++List.replicate (ops.length - (kk+recs.length)) qa)) (Dn f) s0=s0:=by
  rw [pM,nD,oc];exact xn recs _ _ _ λj _=>H _ (by omega)
 have hcnt:∀m,((List.range m).filter λi=>!Dn f i).length<=m - kk:=by
  intro m
  induction m with
  | zero=>simp
  | succ m ih=>
   rw [List.range_succ,K6,bv];rcases aI m kk with hm | hm
   ·have:([m].filter λi=>!Dn f i)=[]:=by simp [G m hm]
    rw [this,cG];omega
   ·have:([m].filter λi=>!Dn f i).length<=1:=by simpa using List.length_filter_le (λi=>!Dn f i) [m]
    omega
 refine QJ F (lim:=lim) (kk:=kk) l (λj q L=>⟨⟨q,by omega⟩,g lim j (pW hup j q (by omega))⟩) (λj q L=>g j lim (pW u j q (by omega))) (λfuel d ι1 a1 w1 hs1 J hn1 Z hdn1 hI2 hc1=>?_) _ f ι a0 _ hs0 G (λj o' e V B he X=>?_) (H lim N) (by rw [hst0];exact hI0) (λi hi hni b S Y=>hI.fresh b (by omega)) (hcnt _)
 ·
  have hD1:appD 0 (List.replicate kk qa++(recs++List.replicate (ops.length - (kk+recs.length)) qa)) (Dn d) s0=recs.foldl St.put s0:=by
   rw [pM,nD,oc];exact CC recs _ _ _ λj hj=>J _ (by omega)
  rw [hD1] at hI2;have hI3:=hI2.eqv g3.symm;have hoa':ops.toArray[lim]?=some o:=by simpa using hoa
  unfold wpOp;rw [hoa'];simp only;rw [ae (by simp [Region.wanted,hga])];refine .inl (CP hE hI3 (λb X=>hI3.fresh b X) (bi _) D (λC ι2 a2 w2 L hI4=>?_) (λv s' A x a' w' hk=>by cases hk));rcases Ci hE (ops.drop (lim+1)) (lim+1) { C with nb:=C.nb+8*ops.length } [] (by simp;omega) L with ⟨recs2,sf2,trf2,q1,q2,q3,_,q5,q6⟩ | ⟨p,po,recs2,sf2,sp2,trf2,v,wr,rp,_,_,_,_,_,_,q2,_⟩
  case inr=>cases q2
  split at q2
  case h_2=>cases q2
  rename_i htr2;have hl2:recs2.length=ops.length - (lim+1):=by rw [q1];simp
  have F2:=EO (P:=P) (n:=n) (nb0:=C.nb) (kk:=lim+1) (ops:=ops) (recs:=recs2) (s0:={ C with nb:=C.nb+8*ops.length }) (trf:=trf2) K hb2 (by omega) rfl htr2 q5 (λj o r V U=>q6 j o r (by rw [mw];exact V) U);have hlt:lim<d.size:=by omega
  have t:Dn (d.setIfInBounds lim true)=λj=>if j=lim then true else Dn d j:=by
   funext j;exact Am hlt j
  have hund:∀j,lim<j->j<ops.length->Dn (d.setIfInBounds lim true) j=false:=by
   intro j q L;rw [t];simp only [show ¬j=lim by omega,aG];cases B:Dn d j with
   | false=>rfl
   | true=>
    have:=g j lim (pW u j q (by omega)) _ Z B;rw [hn1] at this;cases this
  have hfin:∀O a3 w3,Inv n ι0 w0 O ((List.replicate (lim+1) qa++(recs2++List.replicate (ops.length - (lim+1+recs2.length)) qa)).foldl St.put { C with nb:=C.nb+8*ops.length }) a3 w3->Q .normal a3 w3:=by
   intro O a3 w3 hI5;rw [I6,I6,rC,rC] at hI5;exact ⟨rfl,sf2,O,hI5.eqv q3.symm,q2⟩
  have M:∀j,j<lim+1->Dn (d.setIfInBounds lim true) j=true:=by
   intro j hj;rw [t];by_cases h:j=lim
   ·simp [h]
   ·simp only [h,aG];exact J j (by omega)
  have hI6:Inv n ι0 w0 ι2 (appD 0 (List.replicate (lim+1) qa++(recs2++List.replicate (ops.length - (lim+1+recs2.length)) qa)) (Dn (d.setIfInBounds lim true)) { C with nb:=C.nb+8*ops.length }) a2 w2:=by
   rw [pM,nD,oc,xn recs2 _ _ _ λj hj=>hund _ (by omega) (by omega)];exact hI4.grow _
  have hc2:((List.range ops.length).filter λj=>!Dn (d.setIfInBounds lim true) j).length<=fuel:=by
   have:((List.range ops.length).filter λj=>!Dn (d.setIfInBounds lim true) j).length<((List.range ops.length).filter λj=>!Dn d j).length:=by
    rw [t];have T:((List.range ops.length).filter λj=>!(if j=lim then true else Dn d j))=((List.range ops.length).filter λj=>!Dn d j).filter λj=>decide (j≠lim):=by
     rw [HK];congr 1;funext j;by_cases hji:j=lim<;>simp [hji]
    rw [T];refine AU.2 ⟨lim,by simp [l,hn1],by simp⟩
   omega
  exact Ey F2 (ι0:=ι0) (w0:=w0) (kk:=lim+1) (λj q L=>⟨q,by omega⟩) hfin fuel _ ι2 a2 w2 (by simpa using hs1) M hdn1 hI6 (λi hi hni b S Y=>hI4.fresh b (by omega)) hc2
 ·have q:=jW ops 0 K j o' e V he X;refine G _ ?_;rcases aI j kk with h | h
  ·omega
  ·rw [H j h] at B;cases B
theorem Qa {α:Type} {E:List Ent} (a:∀x∈E,ge P x) {n:Nat} {ops:List Oper} {s:St} {k:Ex->St->Option α} {z:α} (h:Us P E n ops s k=some z) (id:Nat):
  SemC P n (.region id ops.toArray true) s λex s'=>k ex s'=some z:=by
 unfold Us at h;split at h
 ·exact Jc a h id
 ·exact K5 a h id
end Go.Abs
