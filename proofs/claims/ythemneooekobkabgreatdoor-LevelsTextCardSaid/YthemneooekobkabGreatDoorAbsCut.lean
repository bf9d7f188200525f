
/- A region that draws its order, with an append in its middle.
   Conditions: none; generic over the program. -/
import Derived.Test.YthemneooekobkabGreatDoorAbsV
set_option linter.unusedSimpArgs false
set_option linter.unusedVariables false
namespace Go.Abs
variable {P:Program}
theorem pU {f:Nat->Bool}:∀{r i:Nat},uh f r i=true->∀j,i<=j->j<i+r->f j=true
 | 0,_,_,j,_,_=>by omega
 | r+1,i,h,j,c,b=>by
  simp only [uh,aA] at h;by_cases a:j=i
  ·rw [a];exact h.1
  ·exact pU h.2 j (by omega) (by omega)
theorem DI {n:Nat} {ops:Array Oper} {r i:Nat} {a:Array Bool} (h:uI n ops (r+1) i a=true):
  ∃o x,ops[i]?=some o/\o.op=.move x/\o.guard=none/\vu n o.dst=true/\Region.free .any ops a i=true/\(Region.ready .any ops a).contains i=true/\uI n ops r (i+1) (a.setIfInBounds i true)=true:=by
 simp only [uI,aA] at h;obtain ⟨b,j,d,g⟩:=h;split at b
 ·rename_i o f;simp only [aA] at b;obtain ⟨c,k,e⟩:=b;split at c
  ·rename_i x hx;exact ⟨o,x,f,hx,by simpa using k,e,j,d,g⟩
  ·cases c
 ·cases b
theorem G3 {α:Type} {n:Nat} {ops:List Oper} (f:Region.noSelect ops.toArray=true) {ι0:Inj} {w0:Base} {ι:Inj} {w:World} {Q:Exit->Act->World->Prop} (C:∀c a w,¬Q (.panic c) a w) {fuel:Nat} {k:St->Option α} {z:α}:
  ∀(r i:Nat) (b:Array Bool) (s:St) (a:Act),uI n ops.toArray r i b=true->b.size=ops.length->i+r<=ops.length->(∀j,j<i->Dn b j=true)->(∀j,i<=j->Dn b j=false)->Inv n ι0 w0 ι s a w->
   runM ((ops.drop i).take r) s k=some z->
   (∀(s':St) (m:Act) (d:Array Bool),k s'=some z->Inv n ι0 w0 ι s' m w->s'.nb=s.nb->d.size=ops.length->(∀j,j<i+r->Dn d j=true)->(∀j,i+r<=j->Dn d j=false)->wpAny P .any ops.toArray Q fuel d m w)->
   wpAny P .any ops.toArray Q (fuel+r) b a w
 | 0,i,b,s,a,_,hs,_,t,y,e,h,q=>by
  simp only [lT,runM] at h;exact q s a b h e rfl hs (by simpa using t) (by simpa using y)
 | r+1,i,b,s,a,T,hs,S,t,y,e,h,q=>by
  obtain ⟨o,x,D,hx,M,K,N,E,A⟩:=DI T;have ho':ops[i]?=some o:=by simpa using D
  have g:(ops.drop i).take (r+1)=o::(ops.drop (i+1)).take r:=by
   have hi:i<ops.length:=by omega
   rw [bf hi] at ho';simp only [au] at ho';rw [qE hi,oc,ho']
  rw [g] at h;simp only [runM,hx] at h;obtain ⟨u,J,h⟩:=av h;have O:=bA e.tmps J;have hy:Yields P ops.toArray o (a.eval x) a:=.inl ⟨by simp [Region.wanted,M],λw=>by simp [execOp,hx]⟩;have hI':Inv n ι0 w0 ι (s.app o.dst (some u) [] s.nb) (a.put o.dst (a.eval x)) w:=
   ⟨by rw [nE];exact e.size,by rw [jJ];exact e.defers,e.tmps.app e.size K (λv p=>by cases p;exact O),e.mem,e.ext,e.new,e.fr,e.low,e.fz,e.gl⟩
  refine wpAny_take (fuel:=fuel+r) D f N E (λc a w h=>absurd h (C c _ w)) hy ?_;have l:i<b.size:=by omega
  refine G3 f C r (i+1) _ _ _ A (by simpa using hs) (by omega) (λj B=>?_) (λj B=>?_) hI' h λs' m d I L H R F G=>q s' m d I L H R (λj B=>F j (by omega)) (λj B=>G j (by omega))
  ·rw [zZ l];split
   ·rfl
   ·exact t j (by omega)
  ·rw [zZ l,ab (by omega)];exact y j (by omega)
def qy:Rec:=⟨none,none,[],[]⟩
theorem xG (s:St):s.put qy=s:=rfl
theorem pq:∀(m i:Nat) (l:List Rec) (D:Nat->Bool) (s:St),appD i (List.replicate m qy++l) D s=appD (i+m) l D s
 | 0,i,l,D,s=>by simp
 | m+1,i,l,D,s=>by
  rw [tz,fg];simp only [appD,xG,ite_self];rw [pq m (i+1) l D s,show i+1+m=i+(m+1) by omega]
theorem nS:∀(m i:Nat) (D:Nat->Bool) (s:St),appD i (List.replicate m qy) D s=s
 | 0,i,D,s=>rfl
 | m+1,i,D,s=>by
  rw [tz];simp only [appD,xG,ite_self];exact nS m (i+1) D s
theorem nL:∀(l m:List Rec) (i:Nat) (D:Nat->Bool) (s:St),appD i (l++m) D s=appD (i+l.length) m D (appD i l D s)
 | [],m,i,D,s=>by simp [appD]
 | r::l,m,i,D,s=>by
  simp only [fg,appD,aE];rw [nL l m (i+1)];rw [show i+1+l.length=i+(l.length+1) by omega]
theorem yE:∀(l:List Rec) (i:Nat) (D:Nat->Bool) (s:St),(∀j,j<l.length->D (i+j)=false)->appD i l D s=s
 | [],i,D,s,_=>rfl
 | r::l,i,D,s,h=>by
  have a:=h 0 (by simp);simp only [cP] at a;simp only [appD,a,bv,aB];exact yE l (i+1) D s λj b=>by have:=h (j+1) (by simpa using b);rwa [show i+(j+1)=i+1+j by omega] at this
theorem rn:∀(m:Nat) (s:St),(List.replicate m qy).foldl St.put s=s
 | 0,_=>rfl
 | m+1,s=>by rw [tz,vC,xG];exact rn m s
theorem Ek {n nb0 kk:Nat} {ops:List Oper} {recs:List Rec} {s0:St} {trf:List TE} (E:rF 0 ops=true) (H:uC ops.toArray (ln ops []) 0 [] ops=true)
  (I:kk+recs.length<=ops.length) (G:s0.nb=nb0+8*ops.length) (p:qz (ln ops []) (trf.filter λx=>!(x.rd.isEmpty&&x.ws.isEmpty))=true)
  (L:∀j r,recs[j]?=some r->(⟨kk+j,r.rd,keys r.wr⟩:TE)∈trf\/(r.rd=[]/\r.wr=[]))
  (T:∀(j:Nat) (o:Oper) (r:Rec),ops[kk+j]?=some o->recs[j]?=some r->r.dst=o.dst/\uQ P n nb0 ops (kk+j) o r ((recs.take j).foldl St.put s0)):
  DrawFacts P n nb0 ops (List.replicate kk qy++(recs++List.replicate (ops.length - (kk+recs.length)) qy)) s0 (λj=>kk<=j/\j<kk+recs.length):=by
 have b:=pS ops ops [] (by simp) (λj i D=>by simp [getN] at D);have a:∀(j:Nat) (r:Rec),(List.replicate kk qy++(recs++List.replicate (ops.length - (kk+recs.length)) qy))[j]?=some r->(r=qy/\¬(kk<=j/\j<kk+recs.length))\/(kk<=j/\j<kk+recs.length/\recs[j - kk]?=some r):=by
  intro j r d;rcases aH j kk with h | h
  ·rw [od (by simpa using h)] at d;exact .inl ⟨(List.mem_replicate.1 (gM d)).2,by omega⟩
  ·rw [qG (by simpa using h)] at d;simp only [List.length_replicate] at d;rcases aH (j - kk) recs.length with k | k
   ·rw [od k] at d;exact .inr ⟨h,by omega,d⟩
   ·rw [qG k] at d;exact .inl ⟨(List.mem_replicate.1 (gM d)).2,by omega⟩
 refine ⟨by simp;omega,G,λj o r v N=>?_,λj o e v O D=>?_,λi j x y c hx hy=>?_,λi j x y c hx hy=>?_⟩
 ·rcases a j r N with ⟨rfl,u⟩ | ⟨Q,k,l⟩
  ·exact ⟨λt A=>(by cases A),λU=>absurd U u⟩
  ·obtain ⟨M,J⟩:=T (j - kk) o r (by rw [show kk+(j - kk)=j by omega];exact v) l;rw [show kk+(j - kk)=j by omega] at J;refine ⟨λt A=>M▸A,λ_=>J.eqv ?_⟩;rw [pq,nL];have K:=qS recs (0+kk) (j - kk) s0;have S:appD (0+kk) recs (λm=>decide (m<0+kk+(j - kk))) s0=appD (0+kk) recs (λm=>decide (m<j)) s0:=by rw [show 0+kk+(j - kk)=j by omega]
   rw [S] at K;rw [nS];exact K
 ·have:=jT ops 0 E j o e v O D;omega
 ·have:=ny (masks:=ln ops []) ops [] H i j x y (by simpa using c) (by simpa using hx) hy;simp only [bz,da] at this;exact this.imp (b j i) λh=>h
 ·rcases a i x hx with ⟨rfl,_⟩ | ⟨Q,k,l⟩
  ·exact .inr (by simp [qy,keys])
  ·rcases a j y hy with ⟨rfl,_⟩ | ⟨V,W,R⟩
   ·exact .inr (by simp [qy,keys])
   ·have hx':=L (i - kk) x l;have hy':=L (j - kk) y R;rw [show kk+(i - kk)=i by omega] at hx';rw [show kk+(j - kk)=j by omega] at hy';rcases hx' with s | ⟨w,F⟩
    ·rcases hy' with C | ⟨q,B⟩
     ·by_cases f:(x.rd=[]/\x.wr=[])
      ·exact .inr (by simp [f.1,f.2,keys])
      ·by_cases g:(y.rd=[]/\y.wr=[])
       ·exact .inr (by simp [g.1,g.2,keys])
       ·have m1:(⟨i,x.rd,keys x.wr⟩:TE)∈trf.filter λx=>!(x.rd.isEmpty&&x.ws.isEmpty):=by
         refine oh.2 ⟨s,?_⟩;simp only [keys,lz,Ey,HJ];rcases G5 (x.rd=[]) with h | h
         ·exact .inr (by simpa using λz=>f ⟨h,z⟩)
         ·exact .inl h
        have m2:(⟨j,y.rd,keys y.wr⟩:TE)∈trf.filter λx=>!(x.rd.isEmpty&&x.ws.isEmpty):=by
         refine oh.2 ⟨C,?_⟩;simp only [keys,lz,Ey,HJ];rcases G5 (y.rd=[]) with h | h
         ·exact .inr (by simpa using λz=>g ⟨h,z⟩)
         ·exact .inl h
        have:=D2 (rB p _ m1 _ m2 c) c;exact this.imp (b j i) λh=>h
     ·exact .inr (by simp [q,B,keys])
    ·exact .inr (by simp [w,F,keys])
theorem Inv.grow {n:Nat} {ι0 ι:Inj} {w0:Base} {s:St} {a:Act} {w:World} (h:Inv n ι0 w0 ι s a w) (m:Nat):Inv n ι0 w0 ι { s with nb:=s.nb+m } a w:=
 ⟨h.size,h.defers,h.tmps,⟨h.mem.inj,λb r C=>by have:=h.mem.low b r C;simp only;omega,h.mem.dom,h.mem.blk⟩,h.ext,h.new,h.fr,h.low,h.fz,h.gl⟩
theorem Es {ops:List Oper} (h:Uo ops=true):Region.noSelect ops.toArray=true:=by
 unfold Uo at h;unfold Region.noSelect;rw [List.all_toArray,cK];rw [cK] at h;intro o a;have:=h o a;cases b:o.op<;>simp_all
theorem LS {α:Type} {E:List Ent} (hE:∀x∈E,f9 P x) {n:Nat} {ops:List Oper} {lim:Nat} {s:St} {k:Ex->St->Option α} {z:α} (h:MM P E n ops lim s k=some z) (id:Nat):
  SemC P n (.region id ops.toArray true) s λex s'=>k ex s'=some z:=by
 intro ι0 w0 ι a w hI;unfold MM at h;simp only at h;generalize hkk:N8 (getN (ln ops []) lim) lim lim 0=kk at h;split at h
 case h_2=>cases h
 rename_i R;simp only [aA,HN,VV] at R;obtain ⟨⟨K,hb2,hb3⟩,X,l,N,H,hup,u⟩:=R;have l:lim<ops.length:=aJ l;have N:=aJ N;have g:=pS ops ops [] (by simp) (λj i hb=>by simp [getN] at hb);have hI1:Inv n ι0 w0 ι { s with nb:=s.nb+8*ops.length } a { w with drawn:=w.drawn+1 }:=(hI.drawn (w.drawn+1)).grow _;let Q:Exit->Act->World->Prop:=λe a w=>e=.normal/\∃s' A,Inv n ι0 w0 A s' a w/\k .normal s'=some z;refine tO (λe a w (hq:Q e a w)=>?_) (wp_region_any (Q:=Q) X ?_)
 ·obtain ⟨rfl,s',A,q,M⟩:=hq;exact ⟨.normal,s',A,rfl,q,M⟩
 have hD0:∀i,Dn (Array.replicate ops.length false) i=false:=by
  intro i;unfold Dn;simp only [qW,W8];split<;>rfl
 have hsz:ops.toArray.size=(ops.length - kk)+kk:=by simp;omega
 rw [hsz,show Array.replicate ((ops.length - kk)+kk) false=Array.replicate ops.length false by rw [Nat.sub_add_cancel (by omega)]];refine G3 (Es hb3) (λc a w hq=>by cases hq.1) kk 0 _ _ a H (by simp) (by omega) (λj V=>by omega) (λj _=>hD0 j) hI1 (by rw [bV];exact h) λs0 a0 f h hI0 J hs0 G C=>?_;simp only [da] at G C;simp only at J;rcases AI hE ((ops.take lim).drop kk) kk s0 [] (by simp;omega) h with ⟨recs,sf,trf,g1,D,g3,_,g5,g6⟩ | ⟨p,po,recs,sf,sp,trf,v,wr,rp,_,_,_,_,_,_,D,_⟩
 case inr=>cases D
 split at D
 case h_2=>cases D
 rename_i htr;have hl1:recs.length=lim - kk:=by rw [g1];simp;omega
 have W:∀j,j<lim - kk->((ops.take lim).drop kk)[j]?=ops[kk+j]?:=λj V=>by
  rw [na,Kw,ae (by omega)]
 have F:=Ek (P:=P) (n:=n) (nb0:=s.nb) (kk:=kk) (ops:=ops) (recs:=recs) (s0:=s0) (trf:=trf) K hb2 (by omega) J htr g5 (λj o r ho hr=>by
  have V:j<recs.length:=by
   rcases aH j recs.length with h' | h'
   ·exact h'
   ·rw [g9 h'] at hr;cases hr
  exact g6 j o r (by rw [W j (by omega)];exact ho) hr)
 split at D
 case h_2=>cases D
 rename_i o hoa;split at D
 case h_2=>cases D
 rename_i hga;have hst0:appD 0 (List.replicate kk qy++(recs++List.replicate (ops.length - (kk+recs.length)) qy)) (Dn f) s0=s0:=by
  rw [pq,nL,nS];exact yE recs _ _ _ λj _=>C _ (by omega)
 have hcnt:∀m,((List.range m).filter λi=>!Dn f i).length<=m - kk:=by
  intro m
  induction m with
  | zero=>simp
  | succ m ih=>
   rw [List.range_succ,Le,bg];rcases aH m kk with hm | hm
   ·have:([m].filter λi=>!Dn f i)=[]:=by simp [G m hm]
    rw [this,bz];omega
   ·have:([m].filter λi=>!Dn f i).length<=1:=by simpa using List.length_filter_le (λi=>!Dn f i) [m]
    omega
 refine Qe F (lim:=lim) (kk:=kk) l (λj q M=>⟨⟨q,by omega⟩,g lim j (pU hup j q (by omega))⟩) (λj q M=>g j lim (pU u j q (by omega))) (λfuel d ι1 a1 w1 hs1 I S hdn0 hdn1 U hc1=>?_) _ f ι a0 _ hs0 G (λj o' e ho y he hb=>?_) (C lim N) (by rw [hst0];exact hI0) (λi hi hni b Z T=>hI.fresh b (by omega)) (hcnt _)
 ·
  have hD1:appD 0 (List.replicate kk qy++(recs++List.replicate (ops.length - (kk+recs.length)) qy)) (Dn d) s0=recs.foldl St.put s0:=by
   rw [pq,nL,nS];exact BE recs _ _ _ λj V=>I _ (by omega)
  rw [hD1] at U;have hI3:=U.eqv g3.symm;have hoa':ops.toArray[lim]?=some o:=by simpa using hoa
  unfold wpOp;rw [hoa'];simp only;rw [ae (by simp [Region.wanted,hga])];refine .inl (AW hE hI3 (λb hb=>hI3.fresh b hb) (aY _) D (λB ι2 a2 w2 M Y=>?_) (λv s' A x a' w' hk=>by cases hk));rcases AI hE (ops.drop (lim+1)) (lim+1) { B with nb:=B.nb+8*ops.length } [] (by simp;omega) M with ⟨recs2,sf2,trf2,q1,q2,q3,_,q5,q6⟩ | ⟨p,po,recs2,sf2,sp2,trf2,v,wr,rp,_,_,_,_,_,_,q2,_⟩
  case inr=>cases q2
  split at q2
  case h_2=>cases q2
  rename_i htr2;have hl2:recs2.length=ops.length - (lim+1):=by rw [q1];simp
  have F2:=Ek (P:=P) (n:=n) (nb0:=B.nb) (kk:=lim+1) (ops:=ops) (recs:=recs2) (s0:={ B with nb:=B.nb+8*ops.length }) (trf:=trf2) K hb2 (by omega) rfl htr2 q5 (λj o r ho hr=>q6 j o r (by rw [na];exact ho) hr);have hlt:lim<d.size:=by omega
  have t:Dn (d.setIfInBounds lim true)=λj=>if j=lim then true else Dn d j:=by
   funext j;exact zZ hlt j
  have hund:∀j,lim<j->j<ops.length->Dn (d.setIfInBounds lim true) j=false:=by
   intro j q M;rw [t];simp only [show ¬j=lim by omega,aB];cases y:Dn d j with
   | false=>rfl
   | true=>
    have:=g j lim (pU u j q (by omega)) _ hdn0 y;rw [S] at this;cases this
  have hfin:∀O a3 w3,Inv n ι0 w0 O ((List.replicate (lim+1) qy++(recs2++List.replicate (ops.length - (lim+1+recs2.length)) qy)).foldl St.put { B with nb:=B.nb+8*ops.length }) a3 w3->Q .normal a3 w3:=by
   intro O a3 w3 hI5;rw [Hi,Hi,rn,rn] at hI5;exact ⟨rfl,sf2,O,hI5.eqv q3.symm,q2⟩
  have L:∀j,j<lim+1->Dn (d.setIfInBounds lim true) j=true:=by
   intro j V;rw [t];by_cases h:j=lim
   ·simp [h]
   ·simp only [h,aB];exact I j (by omega)
  have hI6:Inv n ι0 w0 ι2 (appD 0 (List.replicate (lim+1) qy++(recs2++List.replicate (ops.length - (lim+1+recs2.length)) qy)) (Dn (d.setIfInBounds lim true)) { B with nb:=B.nb+8*ops.length }) a2 w2:=by
   rw [pq,nL,nS,yE recs2 _ _ _ λj V=>hund _ (by omega) (by omega)];exact Y.grow _
  have hc2:((List.range ops.length).filter λj=>!Dn (d.setIfInBounds lim true) j).length<=fuel:=by
   have:((List.range ops.length).filter λj=>!Dn (d.setIfInBounds lim true) j).length<((List.range ops.length).filter λj=>!Dn d j).length:=by
    rw [t];have hsub:((List.range ops.length).filter λj=>!(if j=lim then true else Dn d j))=((List.range ops.length).filter λj=>!Dn d j).filter λj=>decide (j≠lim):=by
     rw [Ha];congr 1;funext j;by_cases hji:j=lim<;>simp [hji]
    rw [hsub];refine Bo.2 ⟨lim,by simp [l,S],by simp⟩
   omega
  exact CX F2 (ι0:=ι0) (w0:=w0) (kk:=lim+1) (λj q M=>⟨q,by omega⟩) hfin fuel _ ι2 a2 w2 (by simpa using hs1) L hdn1 hI6 (λi hi hni b Z T=>Y.fresh b (by omega)) hc2
 ·have q:=jT ops 0 K j o' e ho he hb;refine G _ ?_;rcases aH j kk with h | h
  ·omega
  ·rw [C j h] at y;cases y
theorem OA {α:Type} {E:List Ent} (a:∀x∈E,f9 P x) {n:Nat} {ops:List Oper} {s:St} {k:Ex->St->Option α} {z:α} (h:SD P E n ops s k=some z) (id:Nat):
  SemC P n (.region id ops.toArray true) s λex s'=>k ex s'=some z:=by
 unfold SD at h;split at h
 ·exact Jm a h id
 ·exact LS a h id
end Go.Abs
