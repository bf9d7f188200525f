
/- A region that draws its order, with an append in its middle.
   Conditions: none; generic over the program. -/
import Derived.Test.YthemneooekobkaaGreatDoorAbsV
set_option linter.unusedSimpArgs false
set_option linter.unusedVariables false
namespace Go.Abs
variable {P:Program}
theorem nz {f:Nat->Bool}:∀{r i:Nat},ra f r i=true->∀j,i<=j->j<i+r->f j=true
 | 0,_,_,j,_,_=>by omega
 | r+1,i,h,j,c,b=>by
  simp only [ra,aA] at h;by_cases a:j=i
  ·rw [a];exact h.1
  ·exact nz h.2 j (by omega) (by omega)
theorem zR {n:Nat} {ops:Array Oper} {r i:Nat} {a:Array Bool} (h:sc n ops (r+1) i a=true):
  ∃o x,ops[i]?=some o/\o.op=.move x/\o.guard=none/\su n o.dst=true/\Region.free .any ops a i=true/\(Region.ready .any ops a).contains i=true/\sc n ops r (i+1) (a.setIfInBounds i true)=true:=by
 simp only [sc,aA] at h;obtain ⟨b,f,g,d⟩:=h;split at b
 ·rename_i o k;simp only [aA] at b;obtain ⟨c,e,l⟩:=b;split at c
  ·rename_i x j;exact ⟨o,x,k,j,by simpa using e,l,f,g,d⟩
  ·cases c
 ·cases b
theorem D9 {α:Type} {n:Nat} {ops:List Oper} (f:Region.noSelect ops.toArray=true) {ι0:Inj} {w0:Base} {ι:Inj} {w:World} {Q:Exit->Act->World->Prop} (E:∀c a w,¬Q (.panic c) a w) {fuel:Nat} {k:St->Option α} {z:α}:
  ∀(r i:Nat) (b:Array Bool) (s:St) (a:Act),sc n ops.toArray r i b=true->b.size=ops.length->i+r<=ops.length->(∀j,j<i->Dn b j=true)->(∀j,i<=j->Dn b j=false)->Inv n ι0 w0 ι s a w->
   runM ((ops.drop i).take r) s k=some z->
   (∀(s':St) (m:Act) (d:Array Bool),k s'=some z->Inv n ι0 w0 ι s' m w->s'.nb=s.nb->d.size=ops.length->(∀j,j<i+r->Dn d j=true)->(∀j,i+r<=j->Dn d j=false)->wpAny P .any ops.toArray Q fuel d m w)->
   wpAny P .any ops.toArray Q (fuel+r) b a w
 | 0,i,b,s,a,_,B,_,C,t,e,h,A=>by
  simp only [l8,runM] at h;exact A s a b h e rfl B (by simpa using C) (by simpa using t)
 | r+1,i,b,s,a,M,B,V,C,t,e,h,A=>by
  obtain ⟨o,x,D,F,U,O,I,K,y⟩:=zR M;have ho':ops[i]?=some o:=by simpa using D
  have g:(ops.drop i).take (r+1)=o::(ops.drop (i+1)).take r:=by
   have hi:i<ops.length:=by omega
   rw [bj hi] at ho';simp only [aq] at ho';rw [qb hi,mg,ho']
  rw [g] at h;simp only [runM,F] at h;obtain ⟨u,H,h⟩:=av h;have N:=bh e.tmps H;have R:Yields P ops.toArray o (a.eval x) a:=.inl ⟨by simp [Region.wanted,U],λw=>by simp [execOp,F]⟩;have hI':Inv n ι0 w0 ι (s.app o.dst (some u) [] s.nb) (a.put o.dst (a.eval x)) w:=
   ⟨by rw [kZ];exact e.size,by rw [iv];exact e.defers,e.tmps.app e.size O (λv q=>by cases q;exact N),e.mem,e.ext,e.new,e.fr,e.low,e.fz,e.gl⟩
  refine wpAny_take (fuel:=fuel+r) D f I K (λc a w h=>absurd h (E c _ w)) R ?_;have l:i<b.size:=by omega
  refine D9 f E r (i+1) _ _ _ y (by simpa using B) (by omega) (λj p=>?_) (λj p=>?_) hI' h λs' m d T J W L G S=>A s' m d T J W L (λj p=>G j (by omega)) (λj p=>S j (by omega))
  ·rw [xb l];split
   ·rfl
   ·exact C j (by omega)
  ·rw [xb l,ab (by omega)];exact t j (by omega)
def nq:Rec:=⟨none,none,[],[]⟩
theorem uQ (s:St):s.put nq=s:=rfl
theorem mD:∀(m i:Nat) (l:List Rec) (D:Nat->Bool) (s:St),appD i (List.replicate m nq++l) D s=appD (i+m) l D s
 | 0,i,l,D,s=>by simp
 | m+1,i,l,D,s=>by
  rw [rL,dY];simp only [appD,uQ,ite_self];rw [mD m (i+1) l D s,show i+1+m=i+(m+1) by omega]
theorem lE:∀(m i:Nat) (D:Nat->Bool) (s:St),appD i (List.replicate m nq) D s=s
 | 0,i,D,s=>rfl
 | m+1,i,D,s=>by
  rw [rL];simp only [appD,uQ,ite_self];exact lE m (i+1) D s
theorem lB:∀(l m:List Rec) (i:Nat) (D:Nat->Bool) (s:St),appD i (l++m) D s=appD (i+l.length) m D (appD i l D s)
 | [],m,i,D,s=>by simp [appD]
 | r::l,m,i,D,s=>by
  simp only [dY,appD,bf];rw [lB l m (i+1)];rw [show i+1+l.length=i+(l.length+1) by omega]
theorem uO:∀(l:List Rec) (i:Nat) (D:Nat->Bool) (s:St),(∀j,j<l.length->D (i+j)=false)->appD i l D s=s
 | [],i,D,s,_=>rfl
 | r::l,i,D,s,h=>by
  have a:=h 0 (by simp);simp only [cf] at a;simp only [appD,a,bq,aE];exact uO l (i+1) D s λj b=>by have:=h (j+1) (by simpa using b);rwa [show i+(j+1)=i+1+j by omega] at this
theorem o7:∀(m:Nat) (s:St),(List.replicate m nq).foldl St.put s=s
 | 0,_=>rfl
 | m+1,s=>by rw [rL,sG,uQ];exact o7 m s
theorem zQ {n nb0 kk:Nat} {ops:List Oper} {recs:List Rec} {s0:St} {trf:List TE} (E:oZ 0 ops=true) (J:qR ops.toArray (jI ops []) 0 [] ops=true)
  (K:kk+recs.length<=ops.length) (C:s0.nb=nb0+8*ops.length) (p:mZ (jI ops []) (trf.filter λx=>!(x.rd.isEmpty&&x.ws.isEmpty))=true)
  (L:∀j r,recs[j]?=some r->(⟨kk+j,r.rd,keys r.wr⟩:TE)∈trf\/(r.rd=[]/\r.wr=[]))
  (W:∀(j:Nat) (o:Oper) (r:Rec),ops[kk+j]?=some o->recs[j]?=some r->r.dst=o.dst/\sd P n nb0 ops (kk+j) o r ((recs.take j).foldl St.put s0)):
  DrawFacts P n nb0 ops (List.replicate kk nq++(recs++List.replicate (ops.length - (kk+recs.length)) nq)) s0 (λj=>kk<=j/\j<kk+recs.length):=by
 have b:=nI ops ops [] (by simp) (λj i u=>by simp [getN] at u);have a:∀(j:Nat) (r:Rec),(List.replicate kk nq++(recs++List.replicate (ops.length - (kk+recs.length)) nq))[j]?=some r->(r=nq/\¬(kk<=j/\j<kk+recs.length))\/(kk<=j/\j<kk+recs.length/\recs[j - kk]?=some r):=by
  intro j r d;rcases aF j kk with h | h
  ·rw [lJ (by simpa using h)] at d;exact .inl ⟨(List.mem_replicate.1 (fD d)).2,by omega⟩
  ·rw [nT (by simpa using h)] at d;simp only [List.length_replicate] at d;rcases aF (j - kk) recs.length with k | k
   ·rw [lJ k] at d;exact .inr ⟨h,by omega,d⟩
   ·rw [nT k] at d;exact .inl ⟨(List.mem_replicate.1 (fD d)).2,by omega⟩
 refine ⟨by simp;omega,C,λj o r q T=>?_,λj o e q O u=>?_,λi j x y c H B=>?_,λi j x y c H B=>?_⟩
 ·rcases a j r T with ⟨rfl,s⟩ | ⟨Q,k,z⟩
  ·exact ⟨λt G=>(by cases G),λU=>absurd U s⟩
  ·obtain ⟨V,N⟩:=W (j - kk) o r (by rw [show kk+(j - kk)=j by omega];exact q) z;rw [show kk+(j - kk)=j by omega] at N;refine ⟨λt G=>V▸G,λ_=>N.eqv ?_⟩;rw [mD,lB];have M:=om recs (0+kk) (j - kk) s0;have S:appD (0+kk) recs (λm=>decide (m<0+kk+(j - kk))) s0=appD (0+kk) recs (λm=>decide (m<j)) s0:=by rw [show 0+kk+(j - kk)=j by omega]
   rw [S] at M;rw [lE];exact M
 ·have:=iK ops 0 E j o e q O u;omega
 ·have:=k9 (masks:=jI ops []) ops [] J i j x y (by simpa using c) (by simpa using H) B;simp only [dR,cL] at this;exact this.imp (b j i) λh=>h
 ·rcases a i x H with ⟨rfl,_⟩ | ⟨Q,k,z⟩
  ·exact .inr (by simp [nq,keys])
  ·rcases a j y B with ⟨rfl,_⟩ | ⟨Y,X,R⟩
   ·exact .inr (by simp [nq,keys])
   ·have hx':=L (i - kk) x z;have hy':=L (j - kk) y R;rw [show kk+(i - kk)=i by omega] at hx';rw [show kk+(j - kk)=j by omega] at hy';rcases hx' with l | ⟨I,F⟩
    ·rcases hy' with w | ⟨A,D⟩
     ·by_cases f:(x.rd=[]/\x.wr=[])
      ·exact .inr (by simp [f.1,f.2,keys])
      ·by_cases g:(y.rd=[]/\y.wr=[])
       ·exact .inr (by simp [g.1,g.2,keys])
       ·have m1:(⟨i,x.rd,keys x.wr⟩:TE)∈trf.filter λx=>!(x.rd.isEmpty&&x.ws.isEmpty):=by
         refine jX.2 ⟨l,?_⟩;simp only [keys,jL,zq,Eg];rcases DL (x.rd=[]) with h | h
         ·exact .inr (by simpa using λv=>f ⟨h,v⟩)
         ·exact .inl h
        have m2:(⟨j,y.rd,keys y.wr⟩:TE)∈trf.filter λx=>!(x.rd.isEmpty&&x.ws.isEmpty):=by
         refine jX.2 ⟨w,?_⟩;simp only [keys,jL,zq,Eg];rcases DL (y.rd=[]) with h | h
         ·exact .inr (by simpa using λv=>g ⟨h,v⟩)
         ·exact .inl h
        have:=zD (oI p _ m1 _ m2 c) c;exact this.imp (b j i) λh=>h
     ·exact .inr (by simp [A,D,keys])
    ·exact .inr (by simp [I,F,keys])
theorem Inv.grow {n:Nat} {ι0 ι:Inj} {w0:Base} {s:St} {a:Act} {w:World} (h:Inv n ι0 w0 ι s a w) (m:Nat):Inv n ι0 w0 ι { s with nb:=s.nb+m } a w:=
 ⟨h.size,h.defers,h.tmps,⟨h.mem.inj,λb r C=>by have:=h.mem.low b r C;simp only;omega,h.mem.dom,h.mem.blk⟩,h.ext,h.new,h.fr,h.low,h.fz,h.gl⟩
theorem zW {ops:List Oper} (h:OV ops=true):Region.noSelect ops.toArray=true:=by
 unfold OV at h;unfold Region.noSelect;rw [List.all_toArray,bS];rw [bS] at h;intro o b;have:=h o b;cases a:o.op<;>simp_all
theorem H3 {α:Type} {E:List Ent} (hE:∀x∈E,fO P x) {n:Nat} {ops:List Oper} {lim:Nat} {s:St} {k:Ex->St->Option α} {z:α} (h:Iy P E n ops lim s k=some z) (id:Nat):
  SemC P n (.region id ops.toArray true) s λex s'=>k ex s'=some z:=by
 intro ι0 w0 ι a w hI;unfold Iy at h;simp only at h;generalize hkk:J4 (getN (jI ops []) lim) lim lim 0=kk at h;split at h
 case h_2=>cases h
 rename_i hok;simp only [aA,DY,SG] at hok;obtain ⟨⟨L,hb2,hb3⟩,hmix,l,O,D,hup,u⟩:=hok;have l:lim<ops.length:=aH l;have O:=aH O;have g:=nI ops ops [] (by simp) (λj i S=>by simp [getN] at S);have hI1:Inv n ι0 w0 ι { s with nb:=s.nb+8*ops.length } a { w with drawn:=w.drawn+1 }:=(hI.drawn (w.drawn+1)).grow _;let Q:Exit->Act->World->Prop:=λe a w=>e=.normal/\∃s' B,Inv n ι0 w0 B s' a w/\k .normal s'=some z;refine rC (λe a w (hq:Q e a w)=>?_) (wp_region_any (Q:=Q) hmix ?_)
 ·obtain ⟨rfl,s',B,t,K⟩:=hq;exact ⟨.normal,s',B,rfl,t,K⟩
 have hD0:∀i,Dn (Array.replicate ops.length false) i=false:=by
  intro i;unfold Dn;simp only [oy,Q0];split<;>rfl
 have hsz:ops.toArray.size=(ops.length - kk)+kk:=by simp;omega
 rw [hsz,show Array.replicate ((ops.length - kk)+kk) false=Array.replicate ops.length false by rw [Nat.sub_add_cancel (by omega)]];refine D9 (zW hb3) (λc a w hq=>by cases hq.1) kk 0 _ _ a D (by simp) (by omega) (λj hj=>by omega) (λj _=>hD0 j) hI1 (by rw [cP];exact h) λs0 a0 f h hI0 J hs0 G C=>?_;simp only [cL] at G C;simp only at J;rcases yZ hE ((ops.take lim).drop kk) kk s0 [] (by simp;omega) h with ⟨recs,sf,trf,g1,y,g3,_,g5,g6⟩ | ⟨p,po,recs,sf,sp,trf,v,wr,rp,_,_,_,_,_,_,y,_⟩
 case inr=>cases y
 split at y
 case h_2=>cases y
 rename_i htr;have hl1:recs.length=lim - kk:=by rw [g1];simp;omega
 have hmid:∀j,j<lim - kk->((ops.take lim).drop kk)[j]?=ops[kk+j]?:=λj hj=>by
  rw [lw,Je,ae (by omega)]
 have F:=zQ (P:=P) (n:=n) (nb0:=s.nb) (kk:=kk) (ops:=ops) (recs:=recs) (s0:=s0) (trf:=trf) L hb2 (by omega) J htr g5 (λj o r X hr=>by
  have hj:j<recs.length:=by
   rcases aF j recs.length with h' | h'
   ·exact h'
   ·rw [fU h'] at hr;cases hr
  exact g6 j o r (by rw [hmid j (by omega)];exact X) hr)
 split at y
 case h_2=>cases y
 rename_i o hoa;split at y
 case h_2=>cases y
 rename_i hga;have hst0:appD 0 (List.replicate kk nq++(recs++List.replicate (ops.length - (kk+recs.length)) nq)) (Dn f) s0=s0:=by
  rw [mD,lB,lE];exact uO recs _ _ _ λj _=>C _ (by omega)
 have R:∀m,((List.range m).filter λi=>!Dn f i).length<=m - kk:=by
  intro m
  induction m with
  | zero=>simp
  | succ m ih=>
   rw [List.range_succ,Hf,bV];rcases aF m kk with hm | hm
   ·have:([m].filter λi=>!Dn f i)=[]:=by simp [G m hm]
    rw [this,dR];omega
   ·have:([m].filter λi=>!Dn f i).length<=1:=by simpa using List.length_filter_le (λi=>!Dn f i) [m]
    omega
 refine L2 F (lim:=lim) (kk:=kk) l (λj t K=>⟨⟨t,by omega⟩,g lim j (nz hup j t (by omega))⟩) (λj t K=>g j lim (nz u j t (by omega))) (λfuel d ι1 a1 w1 hs1 I T hdn0 hdn1 Z hc1=>?_) _ f ι a0 _ hs0 G (λj o' e X A he S=>?_) (C lim O) (by rw [hst0];exact hI0) (λi hi hni b hb1' hb2'=>hI.fresh b (by omega)) (R _)
 ·
  have hD1:appD 0 (List.replicate kk nq++(recs++List.replicate (ops.length - (kk+recs.length)) nq)) (Dn d) s0=recs.foldl St.put s0:=by
   rw [mD,lB,lE];exact yo recs _ _ _ λj hj=>I _ (by omega)
  rw [hD1] at Z;have W:=Z.eqv g3.symm;have hoa':ops.toArray[lim]?=some o:=by simpa using hoa
  unfold wpOp;rw [hoa'];simp only;rw [ae (by simp [Region.wanted,hga])];refine .inl (yg hE W (λb S=>W.fresh b S) (aU _) y (λH ι2 a2 w2 K V=>?_) (λv s' B x a' w' hk=>by cases hk));rcases yZ hE (ops.drop (lim+1)) (lim+1) { H with nb:=H.nb+8*ops.length } [] (by simp;omega) K with ⟨recs2,sf2,trf2,q1,q2,q3,_,q5,q6⟩ | ⟨p,po,recs2,sf2,sp2,trf2,v,wr,rp,_,_,_,_,_,_,q2,_⟩
  case inr=>cases q2
  split at q2
  case h_2=>cases q2
  rename_i htr2;have hl2:recs2.length=ops.length - (lim+1):=by rw [q1];simp
  have F2:=zQ (P:=P) (n:=n) (nb0:=H.nb) (kk:=lim+1) (ops:=ops) (recs:=recs2) (s0:={ H with nb:=H.nb+8*ops.length }) (trf:=trf2) L hb2 (by omega) rfl htr2 q5 (λj o r X hr=>q6 j o r (by rw [lw];exact X) hr);have hlt:lim<d.size:=by omega
  have q:Dn (d.setIfInBounds lim true)=λj=>if j=lim then true else Dn d j:=by
   funext j;exact xb hlt j
  have U:∀j,lim<j->j<ops.length->Dn (d.setIfInBounds lim true) j=false:=by
   intro j t K;rw [q];simp only [show ¬j=lim by omega,aE];cases A:Dn d j with
   | false=>rfl
   | true=>
    have:=g j lim (nz u j t (by omega)) _ hdn0 A;rw [T] at this;cases this
  have Y:∀M a3 w3,Inv n ι0 w0 M ((List.replicate (lim+1) nq++(recs2++List.replicate (ops.length - (lim+1+recs2.length)) nq)).foldl St.put { H with nb:=H.nb+8*ops.length }) a3 w3->Q .normal a3 w3:=by
   intro M a3 w3 hI5;rw [E4,E4,o7,o7] at hI5;exact ⟨rfl,sf2,M,hI5.eqv q3.symm,q2⟩
  have N:∀j,j<lim+1->Dn (d.setIfInBounds lim true) j=true:=by
   intro j hj;rw [q];by_cases h:j=lim
   ·simp [h]
   ·simp only [h,aE];exact I j (by omega)
  have hI6:Inv n ι0 w0 ι2 (appD 0 (List.replicate (lim+1) nq++(recs2++List.replicate (ops.length - (lim+1+recs2.length)) nq)) (Dn (d.setIfInBounds lim true)) { H with nb:=H.nb+8*ops.length }) a2 w2:=by
   rw [mD,lB,lE,uO recs2 _ _ _ λj hj=>U _ (by omega) (by omega)];exact V.grow _
  have hc2:((List.range ops.length).filter λj=>!Dn (d.setIfInBounds lim true) j).length<=fuel:=by
   have:((List.range ops.length).filter λj=>!Dn (d.setIfInBounds lim true) j).length<((List.range ops.length).filter λj=>!Dn d j).length:=by
    rw [q];have hsub:((List.range ops.length).filter λj=>!(if j=lim then true else Dn d j))=((List.range ops.length).filter λj=>!Dn d j).filter λj=>decide (j≠lim):=by
     rw [Dh];congr 1;funext j;by_cases hji:j=lim<;>simp [hji]
    rw [hsub];refine EM.2 ⟨lim,by simp [l,T],by simp⟩
   omega
  exact Bg F2 (ι0:=ι0) (w0:=w0) (kk:=lim+1) (λj t K=>⟨t,by omega⟩) Y fuel _ ι2 a2 w2 (by simpa using hs1) N hdn1 hI6 (λi hi hni b hb1' hb2'=>V.fresh b (by omega)) hc2
 ·have t:=iK ops 0 L j o' e X he S;refine G _ ?_;rcases aF j kk with h | h
  ·omega
  ·rw [C j h] at A;cases A
theorem LR {α:Type} {E:List Ent} (a:∀x∈E,fO P x) {n:Nat} {ops:List Oper} {s:St} {k:Ex->St->Option α} {z:α} (h:N4 P E n ops s k=some z) (id:Nat):
  SemC P n (.region id ops.toArray true) s λex s'=>k ex s'=some z:=by
 unfold N4 at h;split at h
 ·exact FU a h id
 ·exact H3 a h id
end Go.Abs
