
/- A region that draws its order, with an append in its middle.
   Conditions: none; generic over the program. -/
import Derived.Test.YthemneooekobkabGreatDoorAbsV
set_option linter.unusedSimpArgs false
set_option linter.unusedVariables false
namespace Go.Abs
variable {P:Program}
theorem pQ {f:Nat->Bool}:∀{r i:Nat},us f r i=true->∀j,i<=j->j<i+r->f j=true
 | 0,_,_,j,_,_=>by omega
 | r+1,i,h,j,c,b=>by
  simp only [us,aA] at h;by_cases a:j=i
  ·rw [a];exact h.1
  ·exact pQ h.2 j (by omega) (by omega)
theorem Ez {n:Nat} {ops:Array Oper} {r i:Nat} {a:Array Bool} (h:uR n ops (r+1) i a=true):
  ∃o x,ops[i]?=some o/\o.op=.move x/\o.guard=none/\vc n o.dst=true/\Region.free .any ops a i=true/\(Region.ready .any ops a).contains i=true/\uR n ops r (i+1) (a.setIfInBounds i true)=true:=by
 simp only [uR,aA] at h;obtain ⟨b,e,d,f⟩:=h;split at b
 ·rename_i o g;simp only [aA] at b;obtain ⟨c,k,j⟩:=b;split at c
  ·rename_i x hx;exact ⟨o,x,g,hx,by simpa using k,j,e,d,f⟩
  ·cases c
 ·cases b
theorem G9 {α:Type} {n:Nat} {ops:List Oper} (f:Region.noSelect ops.toArray=true) {ι0:Inj} {w0:Base} {ι:Inj} {w:World} {Q:Exit->Act->World->Prop} (D:∀c a w,¬Q (.panic c) a w) {fuel:Nat} {k:St->Option α} {z:α}:
  ∀(r i:Nat) (b:Array Bool) (s:St) (a:Act),uR n ops.toArray r i b=true->b.size=ops.length->i+r<=ops.length->(∀j,j<i->Dn b j=true)->(∀j,i<=j->Dn b j=false)->Inv n ι0 w0 ι s a w->
   runM ((ops.drop i).take r) s k=some z->
   (∀(s':St) (m:Act) (d:Array Bool),k s'=some z->Inv n ι0 w0 ι s' m w->s'.nb=s.nb->d.size=ops.length->(∀j,j<i+r->Dn d j=true)->(∀j,i+r<=j->Dn d j=false)->wpAny P .any ops.toArray Q fuel d m w)->
   wpAny P .any ops.toArray Q (fuel+r) b a w
 | 0,i,b,s,a,_,hs,_,B,t,e,h,y=>by
  simp only [mM,runM] at h;exact y s a b h e rfl hs (by simpa using B) (by simpa using t)
 | r+1,i,b,s,a,M,hs,G,B,t,e,h,y=>by
  obtain ⟨o,x,C,hx,O,E,F,H,A⟩:=Ez M;have ho':ops[i]?=some o:=by simpa using C
  have g:(ops.drop i).take (r+1)=o::(ops.drop (i+1)).take r:=by
   have hi:i<ops.length:=by omega
   rw [bh hi] at ho';simp only [av] at ho';rw [pG hi,mK,ho']
  rw [g] at h;simp only [runM,hx] at h;obtain ⟨u,N,h⟩:=aw h;have L:=bA e.tmps N;have hy:Yields P ops.toArray o (a.eval x) a:=.inl ⟨by simp [Region.wanted,O],λw=>by simp [execOp,hx]⟩;have hI':Inv n ι0 w0 ι (s.app o.dst (some u) [] s.nb) (a.put o.dst (a.eval x)) w:=
   ⟨by rw [nz];exact e.size,by rw [jx];exact e.defers,e.tmps.app e.size E (λv p=>by cases p;exact L),e.mem,e.ext,e.new,e.fr,e.low,e.fz,e.gl⟩
  refine wpAny_take (fuel:=fuel+r) C f F H (λc a w h=>absurd h (D c _ w)) hy ?_;have l:i<b.size:=by omega
  refine G9 f D r (i+1) _ _ _ A (by simpa using hs) (by omega) (λj q=>?_) (λj q=>?_) hI' h λs' m d K J T S R I=>y s' m d K J T S (λj q=>R j (by omega)) (λj q=>I j (by omega))
  ·rw [Ao l];split
   ·rfl
   ·exact B j (by omega)
  ·rw [Ao l,ab (by omega)];exact t j (by omega)
def pZ:Rec:=⟨none,none,[],[]⟩
theorem yR (s:St):s.put pZ=s:=rfl
theorem pq:∀(m i:Nat) (l:List Rec) (D:Nat->Bool) (s:St),appD i (List.replicate m pZ++l) D s=appD (i+m) l D s
 | 0,i,l,D,s=>by simp
 | m+1,i,l,D,s=>by
  rw [tC,eW];simp only [appD,yR,ite_self];rw [pq m (i+1) l D s,show i+1+m=i+(m+1) by omega]
theorem n8:∀(m i:Nat) (D:Nat->Bool) (s:St),appD i (List.replicate m pZ) D s=s
 | 0,i,D,s=>rfl
 | m+1,i,D,s=>by
  rw [tC];simp only [appD,yR,ite_self];exact n8 m (i+1) D s
theorem nV:∀(l m:List Rec) (i:Nat) (D:Nat->Bool) (s:St),appD i (l++m) D s=appD (i+l.length) m D (appD i l D s)
 | [],m,i,D,s=>by simp [appD]
 | r::l,m,i,D,s=>by
  simp only [eW,appD,aE];rw [nV l m (i+1)];rw [show i+1+l.length=i+(l.length+1) by omega]
theorem xO:∀(l:List Rec) (i:Nat) (D:Nat->Bool) (s:St),(∀j,j<l.length->D (i+j)=false)->appD i l D s=s
 | [],i,D,s,_=>rfl
 | r::l,i,D,s,h=>by
  have a:=h 0 (by simp);simp only [cP] at a;simp only [appD,a,bw,aC];exact xO l (i+1) D s λj b=>by have:=h (j+1) (by simpa using b);rwa [show i+(j+1)=i+1+j by omega] at this
theorem qW:∀(m:Nat) (s:St),(List.replicate m pZ).foldl St.put s=s
 | 0,_=>rfl
 | m+1,s=>by rw [tC,vw,yR];exact qW m s
theorem CO {n nb0 kk:Nat} {ops:List Oper} {recs:List Rec} {s0:St} {trf:List TE} (s:qP 0 ops=true) (w:uz ops.toArray (kP ops []) 0 [] ops=true)
  (L:kk+recs.length<=ops.length) (C:s0.nb=nb0+8*ops.length) (u:pS (kP ops []) (trf.filter λx=>!(x.rd.isEmpty&&x.ws.isEmpty))=true)
  (J:∀j r,recs[j]?=some r->(⟨kk+j,r.rd,keys r.wr⟩:TE)∈trf\/(r.rd=[]/\r.wr=[]))
  (T:∀(j:Nat) (o:Oper) (r:Rec),ops[kk+j]?=some o->recs[j]?=some r->r.dst=o.dst/\vb P n nb0 ops (kk+j) o r ((recs.take j).foldl St.put s0)):
  DrawFacts P n nb0 ops (List.replicate kk pZ++(recs++List.replicate (ops.length - (kk+recs.length)) pZ)) s0 (λj=>kk<=j/\j<kk+recs.length):=by
 have a:=qf ops ops [] (by simp) (λj i A=>by simp [getN] at A);have b:∀(j:Nat) (r:Rec),(List.replicate kk pZ++(recs++List.replicate (ops.length - (kk+recs.length)) pZ))[j]?=some r->(r=pZ/\¬(kk<=j/\j<kk+recs.length))\/(kk<=j/\j<kk+recs.length/\recs[j - kk]?=some r):=by
  intro j r d;rcases aH j kk with h | h
  ·rw [nN (by simpa using h)] at d;exact .inl ⟨(List.mem_replicate.1 (fS d)).2,by omega⟩
  ·rw [qF (by simpa using h)] at d;simp only [List.length_replicate] at d;rcases aH (j - kk) recs.length with k | k
   ·rw [nN k] at d;exact .inr ⟨h,by omega,d⟩
   ·rw [qF k] at d;exact .inl ⟨(List.mem_replicate.1 (fS d)).2,by omega⟩
 refine ⟨by simp;omega,C,λj o r q N=>?_,λj o e q Q A=>?_,λi j x y c hx hy=>?_,λi j x y c hx hy=>?_⟩
 ·rcases b j r N with ⟨rfl,B⟩ | ⟨U,k,D⟩
  ·exact ⟨λt E=>(by cases E),λR=>absurd R B⟩
  ·obtain ⟨S,I⟩:=T (j - kk) o r (by rw [show kk+(j - kk)=j by omega];exact q) D;rw [show kk+(j - kk)=j by omega] at I;refine ⟨λt E=>S▸E,λ_=>I.eqv ?_⟩;rw [pq,nV];have K:=rJ recs (0+kk) (j - kk) s0;have O:appD (0+kk) recs (λm=>decide (m<0+kk+(j - kk))) s0=appD (0+kk) recs (λm=>decide (m<j)) s0:=by rw [show 0+kk+(j - kk)=j by omega]
   rw [O] at K;rw [n8];exact K
 ·have:=jM ops 0 s j o e q Q A;omega
 ·have:=nc (masks:=kP ops []) ops [] w i j x y (by simpa using c) (by simpa using hx) hy;simp only [bH,dk] at this;exact this.imp (a j i) λh=>h
 ·rcases b i x hx with ⟨rfl,_⟩ | ⟨U,k,D⟩
  ·exact .inr (by simp [pZ,keys])
  ·rcases b j y hy with ⟨rfl,_⟩ | ⟨W,V,M⟩
   ·exact .inr (by simp [pZ,keys])
   ·have hx':=J (i - kk) x D;have hy':=J (j - kk) y M;rw [show kk+(i - kk)=i by omega] at hx';rw [show kk+(j - kk)=j by omega] at hy';rcases hx' with z | ⟨G,v⟩
    ·rcases hy' with H | ⟨F,p⟩
     ·by_cases f:(x.rd=[]/\x.wr=[])
      ·exact .inr (by simp [f.1,f.2,keys])
      ·by_cases g:(y.rd=[]/\y.wr=[])
       ·exact .inr (by simp [g.1,g.2,keys])
       ·have m1:(⟨i,x.rd,keys x.wr⟩:TE)∈trf.filter λx=>!(x.rd.isEmpty&&x.ws.isEmpty):=by
         refine lz.2 ⟨z,?_⟩;simp only [keys,kQ,ES,HV];rcases HY (x.rd=[]) with h | h
         ·exact .inr (by simpa using λl=>f ⟨h,l⟩)
         ·exact .inl h
        have m2:(⟨j,y.rd,keys y.wr⟩:TE)∈trf.filter λx=>!(x.rd.isEmpty&&x.ws.isEmpty):=by
         refine lz.2 ⟨H,?_⟩;simp only [keys,kQ,ES,HV];rcases HY (y.rd=[]) with h | h
         ·exact .inr (by simpa using λl=>g ⟨h,l⟩)
         ·exact .inl h
        have:=ER (qX u _ m1 _ m2 c) c;exact this.imp (a j i) λh=>h
     ·exact .inr (by simp [F,p,keys])
    ·exact .inr (by simp [G,v,keys])
theorem Inv.grow {n:Nat} {ι0 ι:Inj} {w0:Base} {s:St} {a:Act} {w:World} (h:Inv n ι0 w0 ι s a w) (m:Nat):Inv n ι0 w0 ι { s with nb:=s.nb+m } a w:=
 ⟨h.size,h.defers,h.tmps,⟨h.mem.inj,λb r C=>by have:=h.mem.low b r C;simp only;omega,h.mem.dom,h.mem.blk⟩,h.ext,h.new,h.fr,h.low,h.fz,h.gl⟩
theorem CX {ops:List Oper} (h:S9 ops=true):Region.noSelect ops.toArray=true:=by
 unfold S9 at h;unfold Region.noSelect;rw [List.all_toArray,cv];rw [cv] at h;intro o a;have:=h o a;cases b:o.op<;>simp_all
theorem KO {α:Type} {E:List Ent} (hE:∀x∈E,fW P x) {n:Nat} {ops:List Oper} {lim:Nat} {s:St} {k:Ex->St->Option α} {z:α} (h:Oe P E n ops lim s k=some z) (id:Nat):
  SemC P n (.region id ops.toArray true) s λex s'=>k ex s'=some z:=by
 intro ι0 w0 ι a w hI;unfold Oe at h;simp only at h;generalize hkk:NS (getN (kP ops []) lim) lim lim 0=kk at h;split at h
 case h_2=>cases h
 rename_i hok;simp only [aA,GU,Xh] at hok;obtain ⟨⟨K,hb2,hb3⟩,hmix,l,N,G,hup,q⟩:=hok;have l:lim<ops.length:=aL l;have N:=aL N;have g:=qf ops ops [] (by simp) (λj i U=>by simp [getN] at U);have hI1:Inv n ι0 w0 ι { s with nb:=s.nb+8*ops.length } a { w with drawn:=w.drawn+1 }:=(hI.drawn (w.drawn+1)).grow _;let Q:Exit->Act->World->Prop:=λe a w=>e=.normal/\∃s' C,Inv n ι0 w0 C s' a w/\k .normal s'=some z;refine uJ (λe a w (hq:Q e a w)=>?_) (wp_region_any (Q:=Q) hmix ?_)
 ·obtain ⟨rfl,s',C,t,L⟩:=hq;exact ⟨.normal,s',C,rfl,t,L⟩
 have hD0:∀i,Dn (Array.replicate ops.length false) i=false:=by
  intro i;unfold Dn;simp only [rK,WJ];split<;>rfl
 have hsz:ops.toArray.size=(ops.length - kk)+kk:=by simp;omega
 rw [hsz,show Array.replicate ((ops.length - kk)+kk) false=Array.replicate ops.length false by rw [Nat.sub_add_cancel (by omega)]];refine G9 (CX hb3) (λc a w hq=>by cases hq.1) kk 0 _ _ a G (by simp) (by omega) (λj hj=>by omega) (λj _=>hD0 j) hI1 (by rw [cw];exact h) λs0 a0 f h hI0 I hs0 B H=>?_;simp only [dk] at B H;simp only at I;rcases Au hE ((ops.take lim).drop kk) kk s0 [] (by simp;omega) h with ⟨recs,sf,trf,g1,y,g3,_,g5,g6⟩ | ⟨p,po,recs,sf,sp,trf,v,wr,rp,_,_,_,_,_,_,y,_⟩
 case inr=>cases y
 split at y
 case h_2=>cases y
 rename_i htr;have hl1:recs.length=lim - kk:=by rw [g1];simp;omega
 have hmid:∀j,j<lim - kk->((ops.take lim).drop kk)[j]?=ops[kk+j]?:=λj hj=>by
  rw [mY,LX,ae (by omega)]
 have F:=CO (P:=P) (n:=n) (nb0:=s.nb) (kk:=kk) (ops:=ops) (recs:=recs) (s0:=s0) (trf:=trf) K hb2 (by omega) I htr g5 (λj o r Y hr=>by
  have hj:j<recs.length:=by
   rcases aH j recs.length with h' | h'
   ·exact h'
   ·rw [gU h'] at hr;cases hr
  exact g6 j o r (by rw [hmid j (by omega)];exact Y) hr)
 split at y
 case h_2=>cases y
 rename_i o hoa;split at y
 case h_2=>cases y
 rename_i hga;have hst0:appD 0 (List.replicate kk pZ++(recs++List.replicate (ops.length - (kk+recs.length)) pZ)) (Dn f) s0=s0:=by
  rw [pq,nV,n8];exact xO recs _ _ _ λj _=>H _ (by omega)
 have Z:∀m,((List.range m).filter λi=>!Dn f i).length<=m - kk:=by
  intro m
  induction m with
  | zero=>simp
  | succ m ih=>
   rw [List.range_succ,M6,aR];rcases aH m kk with hm | hm
   ·have:([m].filter λi=>!Dn f i)=[]:=by simp [B m hm]
    rw [this,bH];omega
   ·have:([m].filter λi=>!Dn f i).length<=1:=by simpa using List.length_filter_le (λi=>!Dn f i) [m]
    omega
 refine PU F (lim:=lim) (kk:=kk) l (λj t L=>⟨⟨t,by omega⟩,g lim j (pQ hup j t (by omega))⟩) (λj t L=>g j lim (pQ q j t (by omega))) (λfuel d ι1 a1 w1 hs1 J X hdn0 W hI2 hc1=>?_) _ f ι a0 _ hs0 B (λj o' e Y A he U=>?_) (H lim N) (by rw [hst0];exact hI0) (λi hi hni b S hb2'=>hI.fresh b (by omega)) (Z _)
 ·
  have hD1:appD 0 (List.replicate kk pZ++(recs++List.replicate (ops.length - (kk+recs.length)) pZ)) (Dn d) s0=recs.foldl St.put s0:=by
   rw [pq,nV,n8];exact Be recs _ _ _ λj hj=>J _ (by omega)
  rw [hD1] at hI2;have V:=hI2.eqv g3.symm;have hoa':ops.toArray[lim]?=some o:=by simpa using hoa
  unfold wpOp;rw [hoa'];simp only;rw [ae (by simp [Region.wanted,hga])];refine .inl (CH hE V (λb U=>V.fresh b U) (aV _) y (λD ι2 a2 w2 L hI4=>?_) (λv s' C x a' w' hk=>by cases hk));rcases Au hE (ops.drop (lim+1)) (lim+1) { D with nb:=D.nb+8*ops.length } [] (by simp;omega) L with ⟨recs2,sf2,trf2,q1,q2,q3,_,q5,q6⟩ | ⟨p,po,recs2,sf2,sp2,trf2,v,wr,rp,_,_,_,_,_,_,q2,_⟩
  case inr=>cases q2
  split at q2
  case h_2=>cases q2
  rename_i htr2;have hl2:recs2.length=ops.length - (lim+1):=by rw [q1];simp
  have F2:=CO (P:=P) (n:=n) (nb0:=D.nb) (kk:=lim+1) (ops:=ops) (recs:=recs2) (s0:={ D with nb:=D.nb+8*ops.length }) (trf:=trf2) K hb2 (by omega) rfl htr2 q5 (λj o r Y hr=>q6 j o r (by rw [mY];exact Y) hr);have hlt:lim<d.size:=by omega
  have u:Dn (d.setIfInBounds lim true)=λj=>if j=lim then true else Dn d j:=by
   funext j;exact Ao hlt j
  have hund:∀j,lim<j->j<ops.length->Dn (d.setIfInBounds lim true) j=false:=by
   intro j t L;rw [u];simp only [show ¬j=lim by omega,aC];cases A:Dn d j with
   | false=>rfl
   | true=>
    have:=g j lim (pQ q j t (by omega)) _ hdn0 A;rw [X] at this;cases this
  have R:∀M a3 w3,Inv n ι0 w0 M ((List.replicate (lim+1) pZ++(recs2++List.replicate (ops.length - (lim+1+recs2.length)) pZ)).foldl St.put { D with nb:=D.nb+8*ops.length }) a3 w3->Q .normal a3 w3:=by
   intro M a3 w3 T;rw [Ir,Ir,qW,qW] at T;exact ⟨rfl,sf2,M,T.eqv q3.symm,q2⟩
  have O:∀j,j<lim+1->Dn (d.setIfInBounds lim true) j=true:=by
   intro j hj;rw [u];by_cases h:j=lim
   ·simp [h]
   ·simp only [h,aC];exact J j (by omega)
  have hI6:Inv n ι0 w0 ι2 (appD 0 (List.replicate (lim+1) pZ++(recs2++List.replicate (ops.length - (lim+1+recs2.length)) pZ)) (Dn (d.setIfInBounds lim true)) { D with nb:=D.nb+8*ops.length }) a2 w2:=by
   rw [pq,nV,n8,xO recs2 _ _ _ λj hj=>hund _ (by omega) (by omega)];exact hI4.grow _
  have hc2:((List.range ops.length).filter λj=>!Dn (d.setIfInBounds lim true) j).length<=fuel:=by
   have:((List.range ops.length).filter λj=>!Dn (d.setIfInBounds lim true) j).length<((List.range ops.length).filter λj=>!Dn d j).length:=by
    rw [u];have hsub:((List.range ops.length).filter λj=>!(if j=lim then true else Dn d j))=((List.range ops.length).filter λj=>!Dn d j).filter λj=>decide (j≠lim):=by
     rw [Ha];congr 1;funext j;by_cases hji:j=lim<;>simp [hji]
    rw [hsub];refine BY.2 ⟨lim,by simp [l,X],by simp⟩
   omega
  exact D2 F2 (ι0:=ι0) (w0:=w0) (kk:=lim+1) (λj t L=>⟨t,by omega⟩) R fuel _ ι2 a2 w2 (by simpa using hs1) O W hI6 (λi hi hni b S hb2'=>hI4.fresh b (by omega)) hc2
 ·have t:=jM ops 0 K j o' e Y he U;refine B _ ?_;rcases aH j kk with h | h
  ·omega
  ·rw [H j h] at A;cases A
theorem Qu {α:Type} {E:List Ent} (a:∀x∈E,fW P x) {n:Nat} {ops:List Oper} {s:St} {k:Ex->St->Option α} {z:α} (h:Si P E n ops s k=some z) (id:Nat):
  SemC P n (.region id ops.toArray true) s λex s'=>k ex s'=some z:=by
 unfold Si at h;split at h
 ·exact JC a h id
 ·exact KO a h id
end Go.Abs
