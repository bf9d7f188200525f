
/- A region that draws its order, with an append in its middle.
   Conditions: none; generic over the program. -/
import Derived.Test.YtfiponokimbeeaaGreatDoorAbsV
set_option linter.unusedSimpArgs false
set_option linter.unusedVariables false
namespace Go.Abs
variable {P:Program}
theorem nQ {f:Nat->Bool}:∀{r i:Nat},rN f r i=true->∀j,i<=j->j<i+r->f j=true
 | 0,_,_,j,_,_=>by omega
 | r+1,i,h,j,c,b=>by
  simp only [rN,aB] at h;by_cases a:j=i
  ·rw [a];exact h.1
  ·exact nQ h.2 j (by omega) (by omega)
theorem AG {n:Nat} {ops:Array Oper} {r i:Nat} {a:Array Bool} (h:sJ n ops (r+1) i a=true):
  ∃o x,ops[i]?=some o/\o.op=.move x/\o.guard=none/\sq n o.dst=true/\Region.free .any ops a i=true/\(Region.ready .any ops a).contains i=true/\sJ n ops r (i+1) (a.setIfInBounds i true)=true:=by
 simp only [sJ,aB] at h;obtain ⟨b,g,j,d⟩:=h;split at b
 ·rename_i o k;simp only [aB] at b;obtain ⟨c,f,e⟩:=b;split at c
  ·rename_i x hx;exact ⟨o,x,k,hx,by simpa using f,e,g,j,d⟩
  ·cases c
 ·cases b
theorem EU {α:Type} {n:Nat} {ops:List Oper} (f:Region.noSelect ops.toArray=true) {ι0:Inj} {w0:Base} {ι:Inj} {w:World} {Q:Exit->Act->World->Prop} (C:∀c a w,¬Q (.panic c) a w) {fuel:Nat} {k:St->Option α} {z:α}:
  ∀(r i:Nat) (b:Array Bool) (s:St) (a:Act),sJ n ops.toArray r i b=true->b.size=ops.length->i+r<=ops.length->(∀j,j<i->Dn b j=true)->(∀j,i<=j->Dn b j=false)->Inv n ι0 w0 ι s a w->
   runM ((ops.drop i).take r) s k=some z->
   (∀(s':St) (m:Act) (d:Array Bool),k s'=some z->Inv n ι0 w0 ι s' m w->s'.nb=s.nb->d.size=ops.length->(∀j,j<i+r->Dn d j=true)->(∀j,i+r<=j->Dn d j=false)->wpAny P .any ops.toArray Q fuel d m w)->
   wpAny P .any ops.toArray Q (fuel+r) b a w
 | 0,i,b,s,a,_,hs,_,t,q,e,h,A=>by
  simp only [jU,runM] at h;exact A s a b h e rfl hs (by simpa using t) (by simpa using q)
 | r+1,i,b,s,a,E,hs,T,t,q,e,h,A=>by
  obtain ⟨o,x,D,hx,G,R,K,H,p⟩:=AG E;have ho':ops[i]?=some o:=by simpa using D
  have g:(ops.drop i).take (r+1)=o::(ops.drop (i+1)).take r:=by
   have hi:i<ops.length:=by omega
   rw [bn hi] at ho';simp only [ak] at ho';rw [rz hi,kn,ho']
  rw [g] at h;simp only [runM,hx] at h;obtain ⟨u,N,h⟩:=au h;have L:=bh e.tmps N;have hy:Yields P ops.toArray o (a.eval x) a:=.inl ⟨by simp [Region.wanted,G],λw=>by simp [execOp,hx]⟩;have hI':Inv n ι0 w0 ι (s.app o.dst (some u) [] s.nb) (a.put o.dst (a.eval x)) w:=
   ⟨by rw [lA];exact e.size,by rw [ip];exact e.defers,e.tmps.app e.size R (λv B=>by cases B;exact L),e.mem,e.ext,e.new,e.fr,e.low,e.fz,e.gl⟩
  refine wpAny_take (fuel:=fuel+r) D f K H (λc a w h=>absurd h (C c _ w)) hy ?_;have l:i<b.size:=by omega
  refine EU f C r (i+1) _ _ _ p (by simpa using hs) (by omega) (λj y=>?_) (λj y=>?_) hI' h λs' m d S J F O I M=>A s' m d S J F O (λj y=>I j (by omega)) (λj y=>M j (by omega))
  ·rw [xH l];split
   ·rfl
   ·exact t j (by omega)
  ·rw [xH l,ab (by omega)];exact q j (by omega)
def nT:Rec:=⟨none,none,[],[]⟩
theorem wa (s:St):s.put nT=s:=rfl
theorem np:∀(m i:Nat) (l:List Rec) (D:Nat->Bool) (s:St),appD i (List.replicate m nT++l) D s=appD (i+m) l D s
 | 0,i,l,D,s=>by simp
 | m+1,i,l,D,s=>by
  rw [qN,dQ];simp only [appD,wa,ite_self];rw [np m (i+1) l D s,show i+1+m=i+(m+1) by omega]
theorem mn:∀(m i:Nat) (D:Nat->Bool) (s:St),appD i (List.replicate m nT) D s=s
 | 0,i,D,s=>rfl
 | m+1,i,D,s=>by
  rw [qN];simp only [appD,wa,ite_self];exact mn m (i+1) D s
theorem mh:∀(l m:List Rec) (i:Nat) (D:Nat->Bool) (s:St),appD i (l++m) D s=appD (i+l.length) m D (appD i l D s)
 | [],m,i,D,s=>by simp [appD]
 | r::l,m,i,D,s=>by
  simp only [dQ,appD,aJ];rw [mh l m (i+1)];rw [show i+1+l.length=i+(l.length+1) by omega]
theorem wA:∀(l:List Rec) (i:Nat) (D:Nat->Bool) (s:St),(∀j,j<l.length->D (i+j)=false)->appD i l D s=s
 | [],i,D,s,_=>rfl
 | r::l,i,D,s,h=>by
  have a:=h 0 (by simp);simp only [bZ] at a;simp only [appD,a,bj,aE];exact wA l (i+1) D s λj b=>by have:=h (j+1) (by simpa using b);rwa [show i+(j+1)=i+1+j by omega] at this
theorem pA:∀(m:Nat) (s:St),(List.replicate m nT).foldl St.put s=s
 | 0,_=>rfl
 | m+1,s=>by rw [qN,tz,wa];exact pA m s
theorem AX {n nb0 kk:Nat} {ops:List Oper} {recs:List Rec} {s0:St} {trf:List TE} (A:oO 0 ops=true) (E:r7 ops.toArray (jz ops []) 0 [] ops=true)
  (L:kk+recs.length<=ops.length) (v:s0.nb=nb0+8*ops.length) (D:n9 (jz ops []) (trf.filter λx=>!(x.rd.isEmpty&&x.ws.isEmpty))=true)
  (J:∀j r,recs[j]?=some r->(⟨kk+j,r.rd,keys r.wr⟩:TE)∈trf\/(r.rd=[]/\r.wr=[]))
  (R:∀(j:Nat) (o:Oper) (r:Rec),ops[kk+j]?=some o->recs[j]?=some r->r.dst=o.dst/\sU P n nb0 ops (kk+j) o r ((recs.take j).foldl St.put s0)):
  DrawFacts P n nb0 ops (List.replicate kk nT++(recs++List.replicate (ops.length - (kk+recs.length)) nT)) s0 (λj=>kk<=j/\j<kk+recs.length):=by
 have b:=nO ops ops [] (by simp) (λj i F=>by simp [getN] at F);have a:∀(j:Nat) (r:Rec),(List.replicate kk nT++(recs++List.replicate (ops.length - (kk+recs.length)) nT))[j]?=some r->(r=nT/\¬(kk<=j/\j<kk+recs.length))\/(kk<=j/\j<kk+recs.length/\recs[j - kk]?=some r):=by
  intro j r d;rcases aF j kk with h | h
  ·rw [mg (by simpa using h)] at d;exact .inl ⟨(List.mem_replicate.1 (fH d)).2,by omega⟩
  ·rw [ox (by simpa using h)] at d;simp only [List.length_replicate] at d;rcases aF (j - kk) recs.length with k | k
   ·rw [mg k] at d;exact .inr ⟨h,by omega,d⟩
   ·rw [ox k] at d;exact .inl ⟨(List.mem_replicate.1 (fH d)).2,by omega⟩
 refine ⟨by simp;omega,v,λj o r z N=>?_,λj o e z Q F=>?_,λi j x y c hx hy=>?_,λi j x y c hx hy=>?_⟩
 ·rcases a j r N with ⟨rfl,s⟩ | ⟨T,k,q⟩
  ·exact ⟨λt B=>(by cases B),λM=>absurd M s⟩
  ·obtain ⟨S,I⟩:=R (j - kk) o r (by rw [show kk+(j - kk)=j by omega];exact z) q;rw [show kk+(j - kk)=j by omega] at I;refine ⟨λt B=>S▸B,λ_=>I.eqv ?_⟩;rw [np,mh];have K:=pm recs (0+kk) (j - kk) s0;have O:appD (0+kk) recs (λm=>decide (m<0+kk+(j - kk))) s0=appD (0+kk) recs (λm=>decide (m<j)) s0:=by rw [show 0+kk+(j - kk)=j by omega]
   rw [O] at K;rw [mn];exact K
 ·have:=iR ops 0 A j o e z Q F;omega
 ·have:=lD (masks:=jz ops []) ops [] E i j x y (by simpa using c) (by simpa using hx) hy;simp only [dm,cj] at this;exact this.imp (b j i) λh=>h
 ·rcases a i x hx with ⟨rfl,_⟩ | ⟨T,k,q⟩
  ·exact .inr (by simp [nT,keys])
  ·rcases a j y hy with ⟨rfl,_⟩ | ⟨V,W,U⟩
   ·exact .inr (by simp [nT,keys])
   ·have hx':=J (i - kk) x q;have hy':=J (j - kk) y U;rw [show kk+(i - kk)=i by omega] at hx';rw [show kk+(j - kk)=j by omega] at hy';rcases hx' with l | ⟨H,C⟩
    ·rcases hy' with w | ⟨p,u⟩
     ·by_cases g:(x.rd=[]/\x.wr=[])
      ·exact .inr (by simp [g.1,g.2,keys])
      ·by_cases f:(y.rd=[]/\y.wr=[])
       ·exact .inr (by simp [f.1,f.2,keys])
       ·have m1:(⟨i,x.rd,keys x.wr⟩:TE)∈trf.filter λx=>!(x.rd.isEmpty&&x.ws.isEmpty):=by
         refine lT.2 ⟨l,?_⟩;simp only [keys,kU,BJ,EP];rcases EM (x.rd=[]) with h | h
         ·exact .inr (by simpa using λG=>g ⟨h,G⟩)
         ·exact .inl h
        have m2:(⟨j,y.rd,keys y.wr⟩:TE)∈trf.filter λx=>!(x.rd.isEmpty&&x.ws.isEmpty):=by
         refine lT.2 ⟨w,?_⟩;simp only [keys,kU,BJ,EP];rcases EM (y.rd=[]) with h | h
         ·exact .inr (by simpa using λG=>f ⟨h,G⟩)
         ·exact .inl h
        have:=An (pD D _ m1 _ m2 c) c;exact this.imp (b j i) λh=>h
     ·exact .inr (by simp [p,u,keys])
    ·exact .inr (by simp [H,C,keys])
theorem Inv.grow {n:Nat} {ι0 ι:Inj} {w0:Base} {s:St} {a:Act} {w:World} (h:Inv n ι0 w0 ι s a w) (m:Nat):Inv n ι0 w0 ι { s with nb:=s.nb+m } a w:=
 ⟨h.size,h.defers,h.tmps,⟨h.mem.inj,λb r C=>by have:=h.mem.low b r C;simp only;omega,h.mem.dom,h.mem.blk⟩,h.ext,h.new,h.fr,h.low,h.fz,h.gl⟩
theorem Bn {ops:List Oper} (h:Qs ops=true):Region.noSelect ops.toArray=true:=by
 unfold Qs at h;unfold Region.noSelect;rw [List.all_toArray,bG];rw [bG] at h;intro o b;have:=h o b;cases a:o.op<;>simp_all
theorem Hf {α:Type} {E:List Ent} (hE:∀x∈E,ep P x) {n:Nat} {ops:List Oper} {lim:Nat} {s:St} {k:Ex->St->Option α} {z:α} (h:IM P E n ops lim s k=some z) (id:Nat):
  SemC P n (.region id ops.toArray true) s λex s'=>k ex s'=some z:=by
 intro ι0 w0 ι a w hI;unfold IM at h;simp only at h;generalize hkk:II (getN (jz ops []) lim) lim lim 0=kk at h;split at h
 case h_2=>cases h
 rename_i R;simp only [aB,E5,QW] at R;obtain ⟨⟨K,U,hb3⟩,T,l,L,H,hup,t⟩:=R;have l:lim<ops.length:=aG l;have L:=aG L;have g:=nO ops ops [] (by simp) (λj i hb=>by simp [getN] at hb);have hI1:Inv n ι0 w0 ι { s with nb:=s.nb+8*ops.length } a { w with drawn:=w.drawn+1 }:=(hI.drawn (w.drawn+1)).grow _;let Q:Exit->Act->World->Prop:=λe a w=>e=.normal/\∃s' y,Inv n ι0 w0 y s' a w/\k .normal s'=some z;refine rr (λe a w (hq:Q e a w)=>?_) (wp_region_any (Q:=Q) T ?_)
 ·obtain ⟨rfl,s',y,q,M⟩:=hq;exact ⟨.normal,s',y,rfl,q,M⟩
 have hD0:∀i,Dn (Array.replicate ops.length false) i=false:=by
  intro i;unfold Dn;simp only [oP,R2];split<;>rfl
 have hsz:ops.toArray.size=(ops.length - kk)+kk:=by simp;omega
 rw [hsz,show Array.replicate ((ops.length - kk)+kk) false=Array.replicate ops.length false by rw [Nat.sub_add_cancel (by omega)]];refine EU (Bn hb3) (λc a w hq=>by cases hq.1) kk 0 _ _ a H (by simp) (by omega) (λj hj=>by omega) (λj _=>hD0 j) hI1 (by rw [cg];exact h) λs0 a0 f h hI0 J hs0 A B=>?_;simp only [cj] at A B;simp only at J;rcases zw hE ((ops.take lim).drop kk) kk s0 [] (by simp;omega) h with ⟨recs,sf,trf,g1,D,g3,_,g5,g6⟩ | ⟨p,po,recs,sf,sp,trf,v,wr,rp,_,_,_,_,_,_,D,_⟩
 case inr=>cases D
 split at D
 case h_2=>cases D
 rename_i htr;have hl1:recs.length=lim - kk:=by rw [g1];simp;omega
 have hmid:∀j,j<lim - kk->((ops.take lim).drop kk)[j]?=ops[kk+j]?:=λj hj=>by
  rw [ll,Hv,ae (by omega)]
 have F:=AX (P:=P) (n:=n) (nb0:=s.nb) (kk:=kk) (ops:=ops) (recs:=recs) (s0:=s0) (trf:=trf) K U (by omega) J htr g5 (λj o r S hr=>by
  have hj:j<recs.length:=by
   rcases aF j recs.length with h' | h'
   ·exact h'
   ·rw [fX h'] at hr;cases hr
  exact g6 j o r (by rw [hmid j (by omega)];exact S) hr)
 split at D
 case h_2=>cases D
 rename_i o hoa;split at D
 case h_2=>cases D
 rename_i hga;have Z:appD 0 (List.replicate kk nT++(recs++List.replicate (ops.length - (kk+recs.length)) nT)) (Dn f) s0=s0:=by
  rw [np,mh,mn];exact wA recs _ _ _ λj _=>B _ (by omega)
 have hcnt:∀m,((List.range m).filter λi=>!Dn f i).length<=m - kk:=by
  intro m
  induction m with
  | zero=>simp
  | succ m ih=>
   rw [List.range_succ,List.filter_append,bE];rcases aF m kk with hm | hm
   ·have:([m].filter λi=>!Dn f i)=[]:=by simp [A m hm]
    rw [this,dm];omega
   ·have:([m].filter λi=>!Dn f i).length<=1:=by simpa using List.length_filter_le (λi=>!Dn f i) [m]
    omega
 refine MA F (lim:=lim) (kk:=kk) l (λj q M=>⟨⟨q,by omega⟩,g lim j (nQ hup j q (by omega))⟩) (λj q M=>g j lim (nQ t j q (by omega))) (λfuel d ι1 a1 w1 hs1 I hn1 hdn0 hdn1 V hc1=>?_) _ f ι a0 _ hs0 A (λj o' e S C he hb=>?_) (B lim L) (by rw [Z];exact hI0) (λi hi hni b hb1' hb2'=>hI.fresh b (by omega)) (hcnt _)
 ·
  have hD1:appD 0 (List.replicate kk nT++(recs++List.replicate (ops.length - (kk+recs.length)) nT)) (Dn d) s0=recs.foldl St.put s0:=by
   rw [np,mh,mn];exact zt recs _ _ _ λj hj=>I _ (by omega)
  rw [hD1] at V;have hI3:=V.eqv g3.symm;have hoa':ops.toArray[lim]?=some o:=by simpa using hoa
  unfold wpOp;rw [hoa'];simp only;rw [ae (by simp [Region.wanted,hga])];refine .inl (yo hE hI3 (λb hb=>hI3.fresh b hb) (aQ _) D (λG X a2 w2 M Y=>?_) (λv s' y x a' w' hk=>by cases hk));rcases zw hE (ops.drop (lim+1)) (lim+1) { G with nb:=G.nb+8*ops.length } [] (by simp;omega) M with ⟨recs2,sf2,trf2,q1,q2,q3,_,q5,q6⟩ | ⟨p,po,recs2,sf2,sp2,trf2,v,wr,rp,_,_,_,_,_,_,q2,_⟩
  case inr=>cases q2
  split at q2
  case h_2=>cases q2
  rename_i htr2;have hl2:recs2.length=ops.length - (lim+1):=by rw [q1];simp
  have F2:=AX (P:=P) (n:=n) (nb0:=G.nb) (kk:=lim+1) (ops:=ops) (recs:=recs2) (s0:={ G with nb:=G.nb+8*ops.length }) (trf:=trf2) K U (by omega) rfl htr2 q5 (λj o r S hr=>q6 j o r (by rw [ll];exact S) hr);have hlt:lim<d.size:=by omega
  have u:Dn (d.setIfInBounds lim true)=λj=>if j=lim then true else Dn d j:=by
   funext j;exact xH hlt j
  have hund:∀j,lim<j->j<ops.length->Dn (d.setIfInBounds lim true) j=false:=by
   intro j q M;rw [u];simp only [show ¬j=lim by omega,aE];cases C:Dn d j with
   | false=>rfl
   | true=>
    have:=g j lim (nQ t j q (by omega)) _ hdn0 C;rw [hn1] at this;cases this
  have W:∀N a3 w3,Inv n ι0 w0 N ((List.replicate (lim+1) nT++(recs2++List.replicate (ops.length - (lim+1+recs2.length)) nT)).foldl St.put { G with nb:=G.nb+8*ops.length }) a3 w3->Q .normal a3 w3:=by
   intro N a3 w3 hI5;rw [E8,E8,pA,pA] at hI5;exact ⟨rfl,sf2,N,hI5.eqv q3.symm,q2⟩
  have O:∀j,j<lim+1->Dn (d.setIfInBounds lim true) j=true:=by
   intro j hj;rw [u];by_cases h:j=lim
   ·simp [h]
   ·simp only [h,aE];exact I j (by omega)
  have hI6:Inv n ι0 w0 X (appD 0 (List.replicate (lim+1) nT++(recs2++List.replicate (ops.length - (lim+1+recs2.length)) nT)) (Dn (d.setIfInBounds lim true)) { G with nb:=G.nb+8*ops.length }) a2 w2:=by
   rw [np,mh,mn,wA recs2 _ _ _ λj hj=>hund _ (by omega) (by omega)];exact Y.grow _
  have hc2:((List.range ops.length).filter λj=>!Dn (d.setIfInBounds lim true) j).length<=fuel:=by
   have:((List.range ops.length).filter λj=>!Dn (d.setIfInBounds lim true) j).length<((List.range ops.length).filter λj=>!Dn d j).length:=by
    rw [u];have hsub:((List.range ops.length).filter λj=>!(if j=lim then true else Dn d j))=((List.range ops.length).filter λj=>!Dn d j).filter λj=>decide (j≠lim):=by
     rw [Ez];congr 1;funext j;by_cases hji:j=lim<;>simp [hji]
    rw [hsub];refine D7.2 ⟨lim,by simp [l,hn1],by simp⟩
   omega
  exact BG F2 (ι0:=ι0) (w0:=w0) (kk:=lim+1) (λj q M=>⟨q,by omega⟩) W fuel _ X a2 w2 (by simpa using hs1) O hdn1 hI6 (λi hi hni b hb1' hb2'=>Y.fresh b (by omega)) hc2
 ·have q:=iR ops 0 K j o' e S he hb;refine A _ ?_;rcases aF j kk with h | h
  ·omega
  ·rw [B j h] at C;cases C
theorem NN {α:Type} {E:List Ent} (a:∀x∈E,ep P x) {n:Nat} {ops:List Oper} {s:St} {k:Ex->St->Option α} {z:α} (h:P4 P E n ops s k=some z) (id:Nat):
  SemC P n (.region id ops.toArray true) s λex s'=>k ex s'=some z:=by
 unfold P4 at h;split at h
 ·exact GM a h id
 ·exact Hf a h id
end Go.Abs
