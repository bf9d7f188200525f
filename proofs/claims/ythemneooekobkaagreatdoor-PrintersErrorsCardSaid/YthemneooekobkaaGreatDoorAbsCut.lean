
/- A region that draws its order, with an append in its middle.
   Conditions: none; generic over the program. -/
import Derived.Test.YthemneooekobkaaGreatDoorAbsV
set_option linter.unusedSimpArgs false
set_option linter.unusedVariables false
namespace Go.Abs
variable {P:Program}
theorem nR {f:Nat->Bool}:∀{r i:Nat},rS f r i=true->∀j,i<=j->j<i+r->f j=true
 | 0,_,_,j,_,_=>by omega
 | r+1,i,h,j,c,b=>by
  simp only [rS,ay] at h;by_cases a:j=i
  ·rw [a];exact h.1
  ·exact nR h.2 j (by omega) (by omega)
theorem AV {n:Nat} {ops:Array Oper} {r i:Nat} {a:Array Bool} (h:si n ops (r+1) i a=true):
  ∃o x,ops[i]?=some o/\o.op=.move x/\o.guard=none/\sD n o.dst=true/\Region.free .any ops a i=true/\(Region.ready .any ops a).contains i=true/\si n ops r (i+1) (a.setIfInBounds i true)=true:=by
 simp only [si,ay] at h;obtain ⟨b,d,e,k⟩:=h;split at b
 ·rename_i o f;simp only [ay] at b;obtain ⟨c,g,j⟩:=b;split at c
  ·rename_i x hx;exact ⟨o,x,f,hx,by simpa using g,j,d,e,k⟩
  ·cases c
 ·cases b
theorem Fp {α:Type} {n:Nat} {ops:List Oper} (f:Region.noSelect ops.toArray=true) {ι0:Inj} {w0:Base} {ι:Inj} {w:World} {Q:Exit->Act->World->Prop} (E:∀c a w,¬Q (.panic c) a w) {fuel:Nat} {k:St->Option α} {z:α}:
  ∀(r i:Nat) (b:Array Bool) (s:St) (a:Act),si n ops.toArray r i b=true->b.size=ops.length->i+r<=ops.length->(∀j,j<i->Dn b j=true)->(∀j,i<=j->Dn b j=false)->Inv n ι0 w0 ι s a w->
   runM ((ops.drop i).take r) s k=some z->
   (∀(l:St) (p:Act) (d:Array Bool),k l=some z->Inv n ι0 w0 ι l p w->l.nb=s.nb->d.size=ops.length->(∀j,j<i+r->Dn d j=true)->(∀j,i+r<=j->Dn d j=false)->wpAny P .any ops.toArray Q fuel d p w)->
   wpAny P .any ops.toArray Q (fuel+r) b a w
 | 0,i,b,s,a,_,hs,_,C,B,e,h,A=>by
  simp only [mI,runM] at h;exact A s a b h e rfl hs (by simpa using C) (by simpa using B)
 | r+1,i,b,s,a,L,hs,G,C,B,e,h,A=>by
  obtain ⟨o,x,D,hx,M,F,I,R,t⟩:=AV L;have ho':ops[i]?=some o:=by simpa using D
  have g:(ops.drop i).take (r+1)=o::(ops.drop (i+1)).take r:=by
   have hi:i<ops.length:=by omega
   rw [bH hi] at ho';simp only [am] at ho';rw [wK hi,oP,ho']
  rw [g] at h;simp only [runM,hx] at h;obtain ⟨u,T,h⟩:=au h;have O:=bh e.tmps T;have hy:Yields P ops.toArray o (a.eval x) a:=.inl ⟨by simp [Region.wanted,M],λw=>by simp [execOp,hx]⟩;have hI':Inv n ι0 w0 ι (s.app o.dst (some u) [] s.nb) (a.put o.dst (a.eval x)) w:=
   ⟨by rw [lD];exact e.size,by rw [iy];exact e.defers,e.tmps.app e.size F (λv q=>by cases q;exact O),e.mem,e.ext,e.new,e.fr,e.low,e.fz,e.gl⟩
  refine wpAny_take (fuel:=fuel+r) D f I R (λc a w h=>absurd h (E c _ w)) hy ?_;have m:i<b.size:=by omega
  refine Fp f E r (i+1) _ _ _ t (by simpa using hs) (by omega) (λj y=>?_) (λj y=>?_) hI' h λl p d J K S H U N=>A l p d J K S H (λj y=>U j (by omega)) (λj y=>N j (by omega))
  ·rw [wE m];split
   ·rfl
   ·exact C j (by omega)
  ·rw [wE m,ab (by omega)];exact B j (by omega)
def nH:Rec:=⟨none,none,[],[]⟩
theorem vi (s:St):s.put nH=s:=rfl
theorem nc:∀(m i:Nat) (l:List Rec) (D:Nat->Bool) (s:St),appD i (List.replicate m nH++l) D s=appD (i+m) l D s
 | 0,i,l,D,s=>by simp
 | m+1,i,l,D,s=>by
  rw [qo,ki];simp only [appD,vi,ite_self];rw [nc m (i+1) l D s,show i+1+m=i+(m+1) by omega]
theorem ml:∀(m i:Nat) (D:Nat->Bool) (s:St),appD i (List.replicate m nH) D s=s
 | 0,i,D,s=>rfl
 | m+1,i,D,s=>by
  rw [qo];simp only [appD,vi,ite_self];exact ml m (i+1) D s
theorem ma:∀(l m:List Rec) (i:Nat) (D:Nat->Bool) (s:St),appD i (l++m) D s=appD (i+l.length) m D (appD i l D s)
 | [],m,i,D,s=>by simp [appD]
 | r::l,m,i,D,s=>by
  simp only [ki,appD,aS];rw [ma l m (i+1)];rw [show i+1+l.length=i+(l.length+1) by omega]
theorem uA:∀(l:List Rec) (i:Nat) (D:Nat->Bool) (s:St),(∀j,j<l.length->D (i+j)=false)->appD i l D s=s
 | [],i,D,s,_=>rfl
 | r::l,i,D,s,h=>by
  have a:=h 0 (by simp);simp only [fg] at a;simp only [appD,a,cE,aG];exact uA l (i+1) D s λj b=>by have:=h (j+1) (by simpa using b);rwa [show i+(j+1)=i+1+j by omega] at this
theorem oH:∀(m:Nat) (s:St),(List.replicate m nH).foldl St.put s=s
 | 0,_=>rfl
 | m+1,s=>by rw [qo,tc,vi];exact oH m s
theorem Au {n nb0 kk:Nat} {ops:List Oper} {recs:List Rec} {s0:St} {trf:List TE} (D:oV 0 ops=true) (v:ra ops.toArray (jM ops []) 0 [] ops=true)
  (J:kk+recs.length<=ops.length) (G:s0.nb=nb0+8*ops.length) (z:nE (jM ops []) (trf.filter λx=>!(x.rd.isEmpty&&x.ws.isEmpty))=true)
  (K:∀j r,recs[j]?=some r->(⟨kk+j,r.rd,keys r.wr⟩:TE)∈trf\/(r.rd=[]/\r.wr=[]))
  (S:∀(j:Nat) (o:Oper) (r:Rec),ops[kk+j]?=some o->recs[j]?=some r->r.dst=o.dst/\sS P n nb0 ops (kk+j) o r ((recs.take j).foldl St.put s0)):
  DrawFacts P n nb0 ops (List.replicate kk nH++(recs++List.replicate (ops.length - (kk+recs.length)) nH)) s0 (λj=>kk<=j/\j<kk+recs.length):=by
 have a:=nq ops ops [] (by simp) (λj i E=>by simp [getN] at E);have b:∀(j:Nat) (r:Rec),(List.replicate kk nH++(recs++List.replicate (ops.length - (kk+recs.length)) nH))[j]?=some r->(r=nH/\¬(kk<=j/\j<kk+recs.length))\/(kk<=j/\j<kk+recs.length/\recs[j - kk]?=some r):=by
  intro j r d;rcases aH j kk with h | h
  ·rw [mi (by simpa using h)] at d;exact .inl ⟨(List.mem_replicate.1 (dT d)).2,by omega⟩
  ·rw [oe (by simpa using h)] at d;simp only [List.length_replicate] at d;rcases aH (j - kk) recs.length with k | k
   ·rw [mi k] at d;exact .inr ⟨h,by omega,d⟩
   ·rw [oe k] at d;exact .inl ⟨(List.mem_replicate.1 (dT d)).2,by omega⟩
 refine ⟨by simp;omega,G,λj o r B R=>?_,λj o e B M E=>?_,λi j x y c hx hy=>?_,λi j x y c hx hy=>?_⟩
 ·rcases b j r R with ⟨rfl,F⟩ | ⟨U,k,q⟩
  ·exact ⟨λt l=>(by cases l),λO=>absurd O F⟩
  ·obtain ⟨T,I⟩:=S (j - kk) o r (by rw [show kk+(j - kk)=j by omega];exact B) q;rw [show kk+(j - kk)=j by omega] at I;refine ⟨λt l=>T▸l,λ_=>I.eqv ?_⟩;rw [nc,ma];have L:=oN recs (0+kk) (j - kk) s0;have N:appD (0+kk) recs (λm=>decide (m<0+kk+(j - kk))) s0=appD (0+kk) recs (λm=>decide (m<j)) s0:=by rw [show 0+kk+(j - kk)=j by omega]
   rw [N] at L;rw [ml];exact L
 ·have:=iO ops 0 D j o e B M E;omega
 ·have:=lL (masks:=jM ops []) ops [] v i j x y (by simpa using c) (by simpa using hx) hy;simp only [bg,cV] at this;exact this.imp (a j i) λh=>h
 ·rcases b i x hx with ⟨rfl,_⟩ | ⟨U,k,q⟩
  ·exact .inr (by simp [nH,keys])
  ·rcases b j y hy with ⟨rfl,_⟩ | ⟨V,W,Q⟩
   ·exact .inr (by simp [nH,keys])
   ·have hx':=K (i - kk) x q;have hy':=K (j - kk) y Q;rw [show kk+(i - kk)=i by omega] at hx';rw [show kk+(j - kk)=j by omega] at hy';rcases hx' with p | ⟨C,H⟩
    ·rcases hy' with w | ⟨s,u⟩
     ·by_cases g:(x.rd=[]/\x.wr=[])
      ·exact .inr (by simp [g.1,g.2,keys])
      ·by_cases f:(y.rd=[]/\y.wr=[])
       ·exact .inr (by simp [f.1,f.2,keys])
       ·have m1:(⟨i,x.rd,keys x.wr⟩:TE)∈trf.filter λx=>!(x.rd.isEmpty&&x.ws.isEmpty):=by
         refine kw.2 ⟨p,?_⟩;simp only [keys,kn,Dk,Fh];rcases Fb (x.rd=[]) with h | h
         ·exact .inr (by simpa using λA=>g ⟨h,A⟩)
         ·exact .inl h
        have m2:(⟨j,y.rd,keys y.wr⟩:TE)∈trf.filter λx=>!(x.rd.isEmpty&&x.ws.isEmpty):=by
         refine kw.2 ⟨w,?_⟩;simp only [keys,kn,Dk,Fh];rcases Fb (y.rd=[]) with h | h
         ·exact .inr (by simpa using λA=>f ⟨h,A⟩)
         ·exact .inl h
        have:=Aj (pf z _ m1 _ m2 c) c;exact this.imp (a j i) λh=>h
     ·exact .inr (by simp [s,u,keys])
    ·exact .inr (by simp [C,H,keys])
theorem Inv.grow {n:Nat} {ι0 ι:Inj} {w0:Base} {s:St} {a:Act} {w:World} (h:Inv n ι0 w0 ι s a w) (m:Nat):Inv n ι0 w0 ι { s with nb:=s.nb+m } a w:=
 ⟨h.size,h.defers,h.tmps,⟨h.mem.inj,λb r A=>by have:=h.mem.low b r A;simp only;omega,h.mem.dom,h.mem.blk⟩,h.ext,h.new,h.fr,h.low,h.fz,h.gl⟩
theorem zk {ops:List Oper} (h:NT ops=true):Region.noSelect ops.toArray=true:=by
 unfold NT at h;unfold Region.noSelect;rw [List.all_toArray,cr];rw [cr] at h;intro o a;have:=h o a;cases b:o.op<;>simp_all
theorem Ij {α:Type} {E:List Ent} (hE:∀x∈E,ek P x) {n:Nat} {ops:List Oper} {lim:Nat} {s:St} {k:Ex->St->Option α} {z:α} (h:Jh P E n ops lim s k=some z) (id:Nat):
  SemC P n (.region id ops.toArray true) s λex M=>k ex M=some z:=by
 intro ι0 w0 ι a w hI;unfold Jh at h;simp only at h;generalize hkk:Ia (getN (jM ops []) lim) lim lim 0=kk at h;split at h
 case h_2=>cases h
 rename_i X;simp only [ay,E5,Qj] at X;obtain ⟨⟨N,U,hb3⟩,hmix,l,K,C,hup,q⟩:=X;have l:lim<ops.length:=aD l;have K:=aD K;have g:=nq ops ops [] (by simp) (λj i hb=>by simp [getN] at hb);have hI1:Inv n ι0 w0 ι { s with nb:=s.nb+8*ops.length } a { w with drawn:=w.drawn+1 }:=(hI.drawn (w.drawn+1)).grow _;let Q:Exit->Act->World->Prop:=λe a w=>e=.normal/\∃M y,Inv n ι0 w0 y M a w/\k .normal M=some z;refine rA (λe a w (hq:Q e a w)=>?_) (wp_region_any (Q:=Q) hmix ?_)
 ·obtain ⟨rfl,M,y,t,R⟩:=hq;exact ⟨.normal,M,y,rfl,t,R⟩
 have hD0:∀i,Dn (Array.replicate ops.length false) i=false:=by
  intro i;unfold Dn;simp only [oS,QO];split<;>rfl
 have hsz:ops.toArray.size=(ops.length - kk)+kk:=by simp;omega
 rw [hsz,show Array.replicate ((ops.length - kk)+kk) false=Array.replicate ops.length false by rw [Nat.sub_add_cancel (by omega)]];refine Fp (zk hb3) (λc a w hq=>by cases hq.1) kk 0 _ _ a C (by simp) (by omega) (λj hj=>by omega) (λj _=>hD0 j) hI1 (by rw [jO];exact h) λs0 a0 f h hI0 I hs0 D G=>?_;simp only [cV] at D G;simp only at I;rcases yp hE ((ops.take lim).drop kk) kk s0 [] (by simp;omega) h with ⟨recs,sf,trf,g1,B,g3,_,g5,g6⟩ | ⟨p,po,recs,sf,sp,trf,v,wr,rp,_,_,_,_,_,_,B,_⟩
 case inr=>cases B
 split at B
 case h_2=>cases B
 rename_i htr;have hl1:recs.length=lim - kk:=by rw [g1];simp;omega
 have hmid:∀j,j<lim - kk->((ops.take lim).drop kk)[j]?=ops[kk+j]?:=λj hj=>by
  rw [ke,IU,ad (by omega)]
 have F:=Au (P:=P) (n:=n) (nb0:=s.nb) (kk:=kk) (ops:=ops) (recs:=recs) (s0:=s0) (trf:=trf) N U (by omega) I htr g5 (λj o r ho hr=>by
  have hj:j<recs.length:=by
   rcases aH j recs.length with h' | h'
   ·exact h'
   ·rw [eF h'] at hr;cases hr
  exact g6 j o r (by rw [hmid j (by omega)];exact ho) hr)
 split at B
 case h_2=>cases B
 rename_i o hoa;split at B
 case h_2=>cases B
 rename_i hga;have T:appD 0 (List.replicate kk nH++(recs++List.replicate (ops.length - (kk+recs.length)) nH)) (Dn f) s0=s0:=by
  rw [nc,ma,ml];exact uA recs _ _ _ λj _=>G _ (by omega)
 have Z:∀m,((List.range m).filter λi=>!Dn f i).length<=m - kk:=by
  intro m
  induction m with
  | zero=>simp
  | succ m ih=>
   rw [List.range_succ,HT,bB];rcases aH m kk with hm | hm
   ·have:([m].filter λi=>!Dn f i)=[]:=by simp [D m hm]
    rw [this,bg];omega
   ·have:([m].filter λi=>!Dn f i).length<=1:=by simpa using List.length_filter_le (λi=>!Dn f i) [m]
    omega
 refine Ku F (lim:=lim) (kk:=kk) l (λj t R=>⟨⟨t,by omega⟩,g lim j (nR hup j t (by omega))⟩) (λj t R=>g j lim (nR q j t (by omega))) (λfuel d ι1 a1 w1 hs1 J hn1 hdn0 hdn1 hI2 hc1=>?_) _ f ι a0 _ hs0 D (λj o' e ho A he hb=>?_) (G lim K) (by rw [T];exact hI0) (λi hi hni b W hb2'=>hI.fresh b (by omega)) (Z _)
 ·
  have hD1:appD 0 (List.replicate kk nH++(recs++List.replicate (ops.length - (kk+recs.length)) nH)) (Dn d) s0=recs.foldl St.put s0:=by
   rw [nc,ma,ml];exact zg recs _ _ _ λj hj=>J _ (by omega)
  rw [hD1] at hI2;have hI3:=hI2.eqv g3.symm;have hoa':ops.toArray[lim]?=some o:=by simpa using hoa
  unfold wpOp;rw [hoa'];simp only;rw [ad (by simp [Region.wanted,hga])];refine .inl (yJ hE hI3 (λb hb=>hI3.fresh b hb) (aW _) B (λH ι2 a2 w2 R hI4=>?_) (λv M y x a' w' hk=>by cases hk));rcases yp hE (ops.drop (lim+1)) (lim+1) { H with nb:=H.nb+8*ops.length } [] (by simp;omega) R with ⟨recs2,sf2,trf2,q1,q2,q3,_,q5,q6⟩ | ⟨p,po,recs2,sf2,sp2,trf2,v,wr,rp,_,_,_,_,_,_,q2,_⟩
  case inr=>cases q2
  split at q2
  case h_2=>cases q2
  rename_i htr2;have hl2:recs2.length=ops.length - (lim+1):=by rw [q1];simp
  have F2:=Au (P:=P) (n:=n) (nb0:=H.nb) (kk:=lim+1) (ops:=ops) (recs:=recs2) (s0:={ H with nb:=H.nb+8*ops.length }) (trf:=trf2) N U (by omega) rfl htr2 q5 (λj o r ho hr=>q6 j o r (by rw [ke];exact ho) hr);have hlt:lim<d.size:=by omega
  have u:Dn (d.setIfInBounds lim true)=λj=>if j=lim then true else Dn d j:=by
   funext j;exact wE hlt j
  have S:∀j,lim<j->j<ops.length->Dn (d.setIfInBounds lim true) j=false:=by
   intro j t R;rw [u];simp only [show ¬j=lim by omega,aG];cases A:Dn d j with
   | false=>rfl
   | true=>
    have:=g j lim (nR q j t (by omega)) _ hdn0 A;rw [hn1] at this;cases this
  have Y:∀O a3 w3,Inv n ι0 w0 O ((List.replicate (lim+1) nH++(recs2++List.replicate (ops.length - (lim+1+recs2.length)) nH)).foldl St.put { H with nb:=H.nb+8*ops.length }) a3 w3->Q .normal a3 w3:=by
   intro O a3 w3 hI5;rw [Dz,Dz,oH,oH] at hI5;exact ⟨rfl,sf2,O,hI5.eqv q3.symm,q2⟩
  have L:∀j,j<lim+1->Dn (d.setIfInBounds lim true) j=true:=by
   intro j hj;rw [u];by_cases h:j=lim
   ·simp [h]
   ·simp only [h,aG];exact J j (by omega)
  have hI6:Inv n ι0 w0 ι2 (appD 0 (List.replicate (lim+1) nH++(recs2++List.replicate (ops.length - (lim+1+recs2.length)) nH)) (Dn (d.setIfInBounds lim true)) { H with nb:=H.nb+8*ops.length }) a2 w2:=by
   rw [nc,ma,ml,uA recs2 _ _ _ λj hj=>S _ (by omega) (by omega)];exact hI4.grow _
  have hc2:((List.range ops.length).filter λj=>!Dn (d.setIfInBounds lim true) j).length<=fuel:=by
   have:((List.range ops.length).filter λj=>!Dn (d.setIfInBounds lim true) j).length<((List.range ops.length).filter λj=>!Dn d j).length:=by
    rw [u];have V:((List.range ops.length).filter λj=>!(if j=lim then true else Dn d j))=((List.range ops.length).filter λj=>!Dn d j).filter λj=>decide (j≠lim):=by
     rw [ED];congr 1;funext j;by_cases hji:j=lim<;>simp [hji]
    rw [V];refine Dw.2 ⟨lim,by simp [l,hn1],by simp⟩
   omega
  exact zn F2 (ι0:=ι0) (w0:=w0) (kk:=lim+1) (λj t R=>⟨t,by omega⟩) Y fuel _ ι2 a2 w2 (by simpa using hs1) L hdn1 hI6 (λi hi hni b W hb2'=>hI4.fresh b (by omega)) hc2
 ·have t:=iO ops 0 N j o' e ho he hb;refine D _ ?_;rcases aH j kk with h | h
  ·omega
  ·rw [G j h] at A;cases A
theorem MC {α:Type} {E:List Ent} (a:∀x∈E,ek P x) {n:Nat} {ops:List Oper} {s:St} {k:Ex->St->Option α} {z:α} (h:O4 P E n ops s k=some z) (id:Nat):
  SemC P n (.region id ops.toArray true) s λex b=>k ex b=some z:=by
 unfold O4 at h;split at h
 ·exact FH a h id
 ·exact Ij a h id
end Go.Abs
