
/- A region that draws its order, with an append in its middle.
   Conditions: none; generic over the program. -/
import Derived.Test.YtfiponokimbeeaaGreatDoorAbsV
set_option linter.unusedSimpArgs false
set_option linter.unusedVariables false
namespace Go.Abs
variable {P:Program}
theorem pA {f:Nat->Bool}:∀{r i:Nat},tX f r i=true->∀j,i<=j->j<i+r->f j=true
 | 0,_,_,j,_,_=>by omega
 | r+1,i,h,j,b,c=>by
  simp only [tX,az] at h;by_cases a:j=i
  ·rw [a];exact h.1
  ·exact pA h.2 j (by omega) (by omega)
theorem D6 {n:Nat} {ops:Array Oper} {r i:Nat} {a:Array Bool} (h:uD n ops (r+1) i a=true):
  ∃o x,ops[i]?=some o/\o.op=.move x/\o.guard=none/\uS n o.dst=true/\Region.free .any ops a i=true/\(Region.ready .any ops a).contains i=true/\uD n ops r (i+1) (a.setIfInBounds i true)=true:=by
 simp only [uD,az] at h;obtain ⟨b,j,d,k⟩:=h;split at b
 ·rename_i o e;simp only [az] at b;obtain ⟨c,f,g⟩:=b;split at c
  ·rename_i x hx;exact ⟨o,x,e,hx,by simpa using f,g,j,d,k⟩
  ·cases c
 ·cases b
theorem GY {α:Type} {n:Nat} {ops:List Oper} (f:Region.noSelect ops.toArray=true) {ι0:Inj} {w0:Base} {ι:Inj} {w:World} {Q:Exit->Act->World->Prop} (D:∀c a w,¬Q (.panic c) a w) {fuel:Nat} {k:St->Option α} {z:α}:
  ∀(r i:Nat) (b:Array Bool) (s:St) (a:Act),uD n ops.toArray r i b=true->b.size=ops.length->i+r<=ops.length->(∀j,j<i->Dn b j=true)->(∀j,i<=j->Dn b j=false)->Inv n ι0 w0 ι s a w->
   runM ((ops.drop i).take r) s k=some z->
   (∀(s':St) (m:Act) (d:Array Bool),k s'=some z->Inv n ι0 w0 ι s' m w->s'.nb=s.nb->d.size=ops.length->(∀j,j<i+r->Dn d j=true)->(∀j,i+r<=j->Dn d j=false)->wpAny P .any ops.toArray Q fuel d m w)->
   wpAny P .any ops.toArray Q (fuel+r) b a w
 | 0,i,b,s,a,_,hs,_,A,y,e,h,q=>by
  simp only [mH,runM] at h;exact q s a b h e rfl hs (by simpa using A) (by simpa using y)
 | r+1,i,b,s,a,K,hs,N,A,y,e,h,q=>by
  obtain ⟨o,x,C,hx,T,M,R,I,B⟩:=D6 K;have ho':ops[i]?=some o:=by simpa using C
  have g:(ops.drop i).take (r+1)=o::(ops.drop (i+1)).take r:=by
   have hi:i<ops.length:=by omega
   rw [be hi] at ho';simp only [au] at ho';rw [sj hi,nF,ho']
  rw [g] at h;simp only [runM,hx] at h;obtain ⟨u,G,h⟩:=av h;have E:=bu e.tmps G;have hy:Yields P ops.toArray o (a.eval x) a:=.inl ⟨by simp [Region.wanted,T],λw=>by simp [execOp,hx]⟩;have hI':Inv n ι0 w0 ι (s.app o.dst (some u) [] s.nb) (a.put o.dst (a.eval x)) w:=
   ⟨by rw [mX];exact e.size,by rw [jE];exact e.defers,e.tmps.app e.size M (λv t=>by cases t;exact E),e.mem,e.ext,e.new,e.fr,e.low,e.fz,e.gl⟩
  refine wpAny_take (fuel:=fuel+r) C f R I (λc a w h=>absurd h (D c _ w)) hy ?_;have l:i<b.size:=by omega
  refine GY f D r (i+1) _ _ _ B (by simpa using hs) (by omega) (λj p=>?_) (λj p=>?_) hI' h λs' m d O J L F H S=>q s' m d O J L F (λj p=>H j (by omega)) (λj p=>S j (by omega))
  ·rw [yP l];split
   ·rfl
   ·exact A j (by omega)
  ·rw [yP l,ab (by omega)];exact y j (by omega)
def pf:Rec:=⟨none,none,[],[]⟩
theorem wz (s:St):s.put pf=s:=rfl
theorem o9:∀(m i:Nat) (l:List Rec) (D:Nat->Bool) (s:St),appD i (List.replicate m pf++l) D s=appD (i+m) l D s
 | 0,i,l,D,s=>by simp
 | m+1,i,l,D,s=>by
  rw [sC,eI];simp only [appD,wz,ite_self];rw [o9 m (i+1) l D s,show i+1+m=i+(m+1) by omega]
theorem nR:∀(m i:Nat) (D:Nat->Bool) (s:St),appD i (List.replicate m pf) D s=s
 | 0,i,D,s=>rfl
 | m+1,i,D,s=>by
  rw [sC];simp only [appD,wz,ite_self];exact nR m (i+1) D s
theorem n6:∀(l m:List Rec) (i:Nat) (D:Nat->Bool) (s:St),appD i (l++m) D s=appD (i+l.length) m D (appD i l D s)
 | [],m,i,D,s=>by simp [appD]
 | r::l,m,i,D,s=>by
  simp only [eI,appD,aC];rw [n6 l m (i+1)];rw [show i+1+l.length=i+(l.length+1) by omega]
theorem xk:∀(l:List Rec) (i:Nat) (D:Nat->Bool) (s:St),(∀j,j<l.length->D (i+j)=false)->appD i l D s=s
 | [],i,D,s,_=>rfl
 | r::l,i,D,s,h=>by
  have a:=h 0 (by simp);simp only [cN] at a;simp only [appD,a,br,aA];exact xk l (i+1) D s λj b=>by have:=h (j+1) (by simpa using b);rwa [show i+(j+1)=i+1+j by omega] at this
theorem qK:∀(m:Nat) (s:St),(List.replicate m pf).foldl St.put s=s
 | 0,_=>rfl
 | m+1,s=>by rw [sC,vf,wz];exact qK m s
theorem Cc {n nb0 kk:Nat} {ops:List Oper} {recs:List Rec} {s0:St} {trf:List TE} (A:qA 0 ops=true) (G:tu ops.toArray (la ops []) 0 [] ops=true)
  (I:kk+recs.length<=ops.length) (s:s0.nb=nb0+8*ops.length) (z:pI (la ops []) (trf.filter λx=>!(x.rd.isEmpty&&x.ws.isEmpty))=true)
  (K:∀j r,recs[j]?=some r->(⟨kk+j,r.rd,keys r.wr⟩:TE)∈trf\/(r.rd=[]/\r.wr=[]))
  (U:∀(j:Nat) (o:Oper) (r:Rec),ops[kk+j]?=some o->recs[j]?=some r->r.dst=o.dst/\va P n nb0 ops (kk+j) o r ((recs.take j).foldl St.put s0)):
  DrawFacts P n nb0 ops (List.replicate kk pf++(recs++List.replicate (ops.length - (kk+recs.length)) pf)) s0 (λj=>kk<=j/\j<kk+recs.length):=by
 have a:=pV ops ops [] (by simp) (λj i C=>by simp [getN] at C);have b:∀(j:Nat) (r:Rec),(List.replicate kk pf++(recs++List.replicate (ops.length - (kk+recs.length)) pf))[j]?=some r->(r=pf/\¬(kk<=j/\j<kk+recs.length))\/(kk<=j/\j<kk+recs.length/\recs[j - kk]?=some r):=by
  intro j r d;rcases aH j kk with h | h
  ·rw [nG (by simpa using h)] at d;exact .inl ⟨(List.mem_replicate.1 (fZ d)).2,by omega⟩
  ·rw [qd (by simpa using h)] at d;simp only [List.length_replicate] at d;rcases aH (j - kk) recs.length with k | k
   ·rw [nG k] at d;exact .inr ⟨h,by omega,d⟩
   ·rw [qd k] at d;exact .inl ⟨(List.mem_replicate.1 (fZ d)).2,by omega⟩
 refine ⟨by simp;omega,s,λj o r p O=>?_,λj o e p T C=>?_,λi j x y c hx hy=>?_,λi j x y c hx hy=>?_⟩
 ·rcases b j r O with ⟨rfl,l⟩ | ⟨M,k,B⟩
  ·exact ⟨λt q=>(by cases q),λR=>absurd R l⟩
  ·obtain ⟨S,J⟩:=U (j - kk) o r (by rw [show kk+(j - kk)=j by omega];exact p) B;rw [show kk+(j - kk)=j by omega] at J;refine ⟨λt q=>S▸q,λ_=>J.eqv ?_⟩;rw [o9,n6];have L:=qy recs (0+kk) (j - kk) s0;have Q:appD (0+kk) recs (λm=>decide (m<0+kk+(j - kk))) s0=appD (0+kk) recs (λm=>decide (m<j)) s0:=by rw [show 0+kk+(j - kk)=j by omega]
   rw [Q] at L;rw [nR];exact L
 ·have:=jR ops 0 A j o e p T C;omega
 ·have:=nj (masks:=la ops []) ops [] G i j x y (by simpa using c) (by simpa using hx) hy;simp only [ba,dq] at this;exact this.imp (a j i) λh=>h
 ·rcases b i x hx with ⟨rfl,_⟩ | ⟨M,k,B⟩
  ·exact .inr (by simp [pf,keys])
  ·rcases b j y hy with ⟨rfl,_⟩ | ⟨W,V,N⟩
   ·exact .inr (by simp [pf,keys])
   ·have hx':=K (i - kk) x B;have hy':=K (j - kk) y N;rw [show kk+(i - kk)=i by omega] at hx';rw [show kk+(j - kk)=j by omega] at hy';rcases hx' with u | ⟨v,E⟩
    ·rcases hy' with D | ⟨H,F⟩
     ·by_cases f:(x.rd=[]/\x.wr=[])
      ·exact .inr (by simp [f.1,f.2,keys])
      ·by_cases g:(y.rd=[]/\y.wr=[])
       ·exact .inr (by simp [g.1,g.2,keys])
       ·have m1:(⟨i,x.rd,keys x.wr⟩:TE)∈trf.filter λx=>!(x.rd.isEmpty&&x.ws.isEmpty):=by
         refine nH.2 ⟨u,?_⟩;simp only [keys,kW,CQ,Hf];rcases HK (x.rd=[]) with h | h
         ·exact .inr (by simpa using λw=>f ⟨h,w⟩)
         ·exact .inl h
        have m2:(⟨j,y.rd,keys y.wr⟩:TE)∈trf.filter λx=>!(x.rd.isEmpty&&x.ws.isEmpty):=by
         refine nH.2 ⟨D,?_⟩;simp only [keys,kW,CQ,Hf];rcases HK (y.rd=[]) with h | h
         ·exact .inr (by simpa using λw=>g ⟨h,w⟩)
         ·exact .inl h
        have:=CZ (qQ z _ m1 _ m2 c) c;exact this.imp (a j i) λh=>h
     ·exact .inr (by simp [H,F,keys])
    ·exact .inr (by simp [v,E,keys])
theorem Inv.grow {n:Nat} {ι0 ι:Inj} {w0:Base} {s:St} {a:Act} {w:World} (h:Inv n ι0 w0 ι s a w) (m:Nat):Inv n ι0 w0 ι { s with nb:=s.nb+m } a w:=
 ⟨h.size,h.defers,h.tmps,⟨h.mem.inj,λb r C=>by have:=h.mem.low b r C;simp only;omega,h.mem.dom,h.mem.blk⟩,h.ext,h.new,h.fr,h.low,h.fz,h.gl⟩
theorem DK {ops:List Oper} (h:Ru ops=true):Region.noSelect ops.toArray=true:=by
 unfold Ru at h;unfold Region.noSelect;rw [List.all_toArray,cL];rw [cL] at h;intro o a;have:=h o a;cases b:o.op<;>simp_all
theorem L9 {α:Type} {E:List Ent} (hE:∀x∈E,fF P x) {n:Nat} {ops:List Oper} {lim:Nat} {s:St} {k:Ex->St->Option α} {z:α} (h:Nx P E n ops lim s k=some z) (id:Nat):
  SemC P n (.region id ops.toArray true) s λex s'=>k ex s'=some z:=by
 intro ι0 w0 ι a w hI;unfold Nx at h;simp only at h;generalize hkk:KH (getN (la ops []) lim) lim lim 0=kk at h;split at h
 case h_2=>cases h
 rename_i hok;simp only [az,HY,UK] at hok;obtain ⟨⟨K,hb2,hb3⟩,hmix,l,N,C,hup,q⟩:=hok;have l:lim<ops.length:=aI l;have N:=aI N;have g:=pV ops ops [] (by simp) (λj i U=>by simp [getN] at U);have hI1:Inv n ι0 w0 ι { s with nb:=s.nb+8*ops.length } a { w with drawn:=w.drawn+1 }:=(hI.drawn (w.drawn+1)).grow _;let Q:Exit->Act->World->Prop:=λe a w=>e=.normal/\∃s' A,Inv n ι0 w0 A s' a w/\k .normal s'=some z;refine tC (λe a w (hq:Q e a w)=>?_) (wp_region_any (Q:=Q) hmix ?_)
 ·obtain ⟨rfl,s',A,t,L⟩:=hq;exact ⟨.normal,s',A,rfl,t,L⟩
 have hD0:∀i,Dn (Array.replicate ops.length false) i=false:=by
  intro i;unfold Dn;simp only [qU,Vn];split<;>rfl
 have hsz:ops.toArray.size=(ops.length - kk)+kk:=by simp;omega
 rw [hsz,show Array.replicate ((ops.length - kk)+kk) false=Array.replicate ops.length false by rw [Nat.sub_add_cancel (by omega)]];refine GY (DK hb3) (λc a w hq=>by cases hq.1) kk 0 _ _ a C (by simp) (by omega) (λj S=>by omega) (λj _=>hD0 j) hI1 (by rw [cM];exact h) λs0 a0 f h hI0 J hs0 G H=>?_;simp only [dq] at G H;simp only at J;rcases AW hE ((ops.take lim).drop kk) kk s0 [] (by simp;omega) h with ⟨recs,sf,trf,g1,y,g3,_,g5,g6⟩ | ⟨p,po,recs,sf,sp,trf,v,wr,rp,_,_,_,_,_,_,y,_⟩
 case inr=>cases y
 split at y
 case h_2=>cases y
 rename_i htr;have hl1:recs.length=lim - kk:=by rw [g1];simp;omega
 have hmid:∀j,j<lim - kk->((ops.take lim).drop kk)[j]?=ops[kk+j]?:=λj S=>by
  rw [mL,KE,ae (by omega)]
 have F:=Cc (P:=P) (n:=n) (nb0:=s.nb) (kk:=kk) (ops:=ops) (recs:=recs) (s0:=s0) (trf:=trf) K hb2 (by omega) J htr g5 (λj o r ho V=>by
  have S:j<recs.length:=by
   rcases aH j recs.length with h' | h'
   ·exact h'
   ·rw [gW h'] at V;cases V
  exact g6 j o r (by rw [hmid j (by omega)];exact ho) V)
 split at y
 case h_2=>cases y
 rename_i o hoa;split at y
 case h_2=>cases y
 rename_i hga;have R:appD 0 (List.replicate kk pf++(recs++List.replicate (ops.length - (kk+recs.length)) pf)) (Dn f) s0=s0:=by
  rw [o9,n6,nR];exact xk recs _ _ _ λj _=>H _ (by omega)
 have hcnt:∀m,((List.range m).filter λi=>!Dn f i).length<=m - kk:=by
  intro m
  induction m with
  | zero=>simp
  | succ m ih=>
   rw [List.range_succ,JO,aL];rcases aH m kk with hm | hm
   ·have:([m].filter λi=>!Dn f i)=[]:=by simp [G m hm]
    rw [this,ba];omega
   ·have:([m].filter λi=>!Dn f i).length<=1:=by simpa using List.length_filter_le (λi=>!Dn f i) [m]
    omega
 refine O4 F (lim:=lim) (kk:=kk) l (λj t L=>⟨⟨t,by omega⟩,g lim j (pA hup j t (by omega))⟩) (λj t L=>g j lim (pA q j t (by omega))) (λfuel d ι1 a1 w1 hs1 I X hdn0 hdn1 hI2 hc1=>?_) _ f ι a0 _ hs0 G (λj o' e ho D he U=>?_) (H lim N) (by rw [R];exact hI0) (λi hi hni b hb1' hb2'=>hI.fresh b (by omega)) (hcnt _)
 ·
  have hD1:appD 0 (List.replicate kk pf++(recs++List.replicate (ops.length - (kk+recs.length)) pf)) (Dn d) s0=recs.foldl St.put s0:=by
   rw [o9,n6,nR];exact AG recs _ _ _ λj S=>I _ (by omega)
  rw [hD1] at hI2;have W:=hI2.eqv g3.symm;have hoa':ops.toArray[lim]?=some o:=by simpa using hoa
  unfold wpOp;rw [hoa'];simp only;rw [ae (by simp [Region.wanted,hga])];refine .inl (BI hE W (λb U=>W.fresh b U) (aY _) y (λB ι2 a2 w2 L hI4=>?_) (λv s' A x a' w' hk=>by cases hk));rcases AW hE (ops.drop (lim+1)) (lim+1) { B with nb:=B.nb+8*ops.length } [] (by simp;omega) L with ⟨recs2,sf2,trf2,q1,q2,q3,_,q5,q6⟩ | ⟨p,po,recs2,sf2,sp2,trf2,v,wr,rp,_,_,_,_,_,_,q2,_⟩
  case inr=>cases q2
  split at q2
  case h_2=>cases q2
  rename_i htr2;have hl2:recs2.length=ops.length - (lim+1):=by rw [q1];simp
  have F2:=Cc (P:=P) (n:=n) (nb0:=B.nb) (kk:=lim+1) (ops:=ops) (recs:=recs2) (s0:={ B with nb:=B.nb+8*ops.length }) (trf:=trf2) K hb2 (by omega) rfl htr2 q5 (λj o r ho V=>q6 j o r (by rw [mL];exact ho) V);have hlt:lim<d.size:=by omega
  have u:Dn (d.setIfInBounds lim true)=λj=>if j=lim then true else Dn d j:=by
   funext j;exact yP hlt j
  have T:∀j,lim<j->j<ops.length->Dn (d.setIfInBounds lim true) j=false:=by
   intro j t L;rw [u];simp only [show ¬j=lim by omega,aA];cases D:Dn d j with
   | false=>rfl
   | true=>
    have:=g j lim (pA q j t (by omega)) _ hdn0 D;rw [X] at this;cases this
  have Z:∀M a3 w3,Inv n ι0 w0 M ((List.replicate (lim+1) pf++(recs2++List.replicate (ops.length - (lim+1+recs2.length)) pf)).foldl St.put { B with nb:=B.nb+8*ops.length }) a3 w3->Q .normal a3 w3:=by
   intro M a3 w3 hI5;rw [GQ,GQ,qK,qK] at hI5;exact ⟨rfl,sf2,M,hI5.eqv q3.symm,q2⟩
  have O:∀j,j<lim+1->Dn (d.setIfInBounds lim true) j=true:=by
   intro j S;rw [u];by_cases h:j=lim
   ·simp [h]
   ·simp only [h,aA];exact I j (by omega)
  have hI6:Inv n ι0 w0 ι2 (appD 0 (List.replicate (lim+1) pf++(recs2++List.replicate (ops.length - (lim+1+recs2.length)) pf)) (Dn (d.setIfInBounds lim true)) { B with nb:=B.nb+8*ops.length }) a2 w2:=by
   rw [o9,n6,nR,xk recs2 _ _ _ λj S=>T _ (by omega) (by omega)];exact hI4.grow _
  have hc2:((List.range ops.length).filter λj=>!Dn (d.setIfInBounds lim true) j).length<=fuel:=by
   have:((List.range ops.length).filter λj=>!Dn (d.setIfInBounds lim true) j).length<((List.range ops.length).filter λj=>!Dn d j).length:=by
    rw [u];have Y:((List.range ops.length).filter λj=>!(if j=lim then true else Dn d j))=((List.range ops.length).filter λj=>!Dn d j).filter λj=>decide (j≠lim):=by
     rw [GA];congr 1;funext j;by_cases hji:j=lim<;>simp [hji]
    rw [Y];refine AY.2 ⟨lim,by simp [l,X],by simp⟩
   omega
  exact Du F2 (ι0:=ι0) (w0:=w0) (kk:=lim+1) (λj t L=>⟨t,by omega⟩) Z fuel _ ι2 a2 w2 (by simpa using hs1) O hdn1 hI6 (λi hi hni b hb1' hb2'=>hI4.fresh b (by omega)) hc2
 ·have t:=jR ops 0 K j o' e ho he U;refine G _ ?_;rcases aH j kk with h | h
  ·omega
  ·rw [H j h] at D;cases D
theorem OW {α:Type} {E:List Ent} (a:∀x∈E,fF P x) {n:Nat} {ops:List Oper} {s:St} {k:Ex->St->Option α} {z:α} (h:TB P E n ops s k=some z) (id:Nat):
  SemC P n (.region id ops.toArray true) s λex s'=>k ex s'=some z:=by
 unfold TB at h;split at h
 ·exact IH a h id
 ·exact L9 a h id
end Go.Abs
