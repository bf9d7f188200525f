
/- A region that draws its order, with an append in its middle.
   Conditions: none; generic over the program. -/
import Derived.Test.YtaogbalpingjhaaGreatDoorAbsV
set_option linter.unusedSimpArgs false
set_option linter.unusedVariables false
namespace Go.Abs
variable {P:Program}
theorem kH {f:Nat->Bool}:∀{r i:Nat},nS f r i=true->∀j,i<=j->j<i+r->f j=true
 | 0,_,_,j,_,_=>by omega
 | r+1,i,h,j,c,b=>by
  simp only [nS,av] at h;by_cases a:j=i
  ·rw [a];exact h.1
  ·exact kH h.2 j (by omega) (by omega)
theorem vp {n:Nat} {ops:Array Oper} {r i:Nat} {a:Array Bool} (h:oM n ops (r+1) i a=true):
  ∃o x,ops[i]?=some o/\o.op=.move x/\o.guard=none/\o8 n o.dst=true/\Region.free .any ops a i=true/\(Region.ready .any ops a).contains i=true/\oM n ops r (i+1) (a.setIfInBounds i true)=true:=by
 simp only [oM,av] at h;obtain ⟨b,g,d,f⟩:=h;split at b
 ·rename_i o k;simp only [av] at b;obtain ⟨c,e,j⟩:=b;split at c
  ·rename_i x l;exact ⟨o,x,k,l,by simpa using e,j,g,d,f⟩
  ·cases c
 ·cases b
theorem zp {α:Type} {n:Nat} {ops:List Oper} (f:Region.noSelect ops.toArray=true) {ι0:Inj} {w0:Base} {ι:Inj} {w:World} {Q:Exit->Act->World->Prop} (E:∀c a w,¬Q (.panic c) a w) {fuel:Nat} {k:St->Option α} {z:α}:
  ∀(r i:Nat) (b:Array Bool) (s:St) (a:Act),oM n ops.toArray r i b=true->b.size=ops.length->i+r<=ops.length->(∀j,j<i->Dn b j=true)->(∀j,i<=j->Dn b j=false)->Inv n ι0 w0 ι s a w->
   runM ((ops.drop i).take r) s k=some z->
   (∀(m:St) (p:Act) (d:Array Bool),k m=some z->Inv n ι0 w0 ι m p w->m.nb=s.nb->d.size=ops.length->(∀j,j<i+r->Dn d j=true)->(∀j,i+r<=j->Dn d j=false)->wpAny P .any ops.toArray Q fuel d p w)->
   wpAny P .any ops.toArray Q (fuel+r) b a w
 | 0,i,b,s,a,_,q,_,y,C,e,h,A=>by
  simp only [jR,runM] at h;exact A s a b h e rfl q (by simpa using y) (by simpa using C)
 | r+1,i,b,s,a,U,q,V,y,C,e,h,A=>by
  obtain ⟨o,x,F,G,M,L,N,H,D⟩:=vp U;have ho':ops[i]?=some o:=by simpa using F
  have g:(ops.drop i).take (r+1)=o::(ops.drop (i+1)).take r:=by
   have hi:i<ops.length:=by omega
   rw [cn hi] at ho';simp only [ae] at ho';rw [xN hi,lz,ho']
  rw [g] at h;simp only [runM,G] at h;obtain ⟨u,R,h⟩:=ah h;have T:=aP e.tmps R;have I:Yields P ops.toArray o (a.eval x) a:=.inl ⟨by simp [Region.wanted,M],λw=>by simp [execOp,G]⟩;have hI':Inv n ι0 w0 ι (s.app o.dst (some u) [] s.nb) (a.put o.dst (a.eval x)) w:=
   ⟨by rw [iZ];exact e.size,by rw [fc];exact e.defers,e.tmps.app e.size L (λv t=>by cases t;exact T),e.mem,e.ext,e.new,e.fr,e.low,e.fz,e.gl⟩
  refine wpAny_take (fuel:=fuel+r) F f N H (λc a w h=>absurd h (E c _ w)) I ?_;have l:i<b.size:=by omega
  refine zp f E r (i+1) _ _ _ D (by simpa using q) (by omega) (λj B=>?_) (λj B=>?_) hI' h λm p d X O S J K W=>A m p d X O S J (λj B=>K j (by omega)) (λj B=>W j (by omega))
  ·rw [ta l];split
   ·rfl
   ·exact y j (by omega)
  ·rw [ta l,ab (by omega)];exact C j (by omega)
def kR:Rec:=⟨none,none,[],[]⟩
theorem qx (s:St):s.put kR=s:=rfl
theorem kx:∀(m i:Nat) (l:List Rec) (D:Nat->Bool) (s:St),appD i (List.replicate m kR++l) D s=appD (i+m) l D s
 | 0,i,l,D,s=>by simp
 | m+1,i,l,D,s=>by
  rw [oU,jr];simp only [appD,qx,ite_self];rw [kx m (i+1) l D s,show i+1+m=i+(m+1) by omega]
theorem jx:∀(m i:Nat) (D:Nat->Bool) (s:St),appD i (List.replicate m kR) D s=s
 | 0,i,D,s=>rfl
 | m+1,i,D,s=>by
  rw [oU];simp only [appD,qx,ite_self];exact jx m (i+1) D s
theorem jA:∀(l m:List Rec) (i:Nat) (D:Nat->Bool) (s:St),appD i (l++m) D s=appD (i+l.length) m D (appD i l D s)
 | [],m,i,D,s=>by simp [appD]
 | r::l,m,i,D,s=>by
  simp only [jr,appD,ci];rw [jA l m (i+1)];rw [show i+1+l.length=i+(l.length+1) by omega]
theorem rV:∀(l:List Rec) (i:Nat) (D:Nat->Bool) (s:St),(∀j,j<l.length->D (i+j)=false)->appD i l D s=s
 | [],i,D,s,_=>rfl
 | r::l,i,D,s,h=>by
  have a:=h 0 (by simp);simp only [dG] at a;simp only [appD,a,bT,aE];exact rV l (i+1) D s λj b=>by have:=h (j+1) (by simpa using b);rwa [show i+(j+1)=i+1+j by omega] at this
theorem lY:∀(m:Nat) (s:St),(List.replicate m kR).foldl St.put s=s
 | 0,_=>rfl
 | m+1,s=>by rw [oU,pd,qx];exact lY m s
theorem vL {n nb0 kk:Nat} {ops:List Oper} {recs:List Rec} {s0:St} {trf:List TE} (F:lQ 0 ops=true) (u:nW ops.toArray (gg ops []) 0 [] ops=true)
  (M:kk+recs.length<=ops.length) (I:s0.nb=nb0+8*ops.length) (w:kI (gg ops []) (trf.filter λx=>!(x.rd.isEmpty&&x.ws.isEmpty))=true)
  (L:∀j r,recs[j]?=some r->(⟨kk+j,r.rd,keys r.wr⟩:TE)∈trf\/(r.rd=[]/\r.wr=[]))
  (T:∀(j:Nat) (o:Oper) (r:Rec),ops[kk+j]?=some o->recs[j]?=some r->r.dst=o.dst/\o6 P n nb0 ops (kk+j) o r ((recs.take j).foldl St.put s0)):
  DrawFacts P n nb0 ops (List.replicate kk kR++(recs++List.replicate (ops.length - (kk+recs.length)) kR)) s0 (λj=>kk<=j/\j<kk+recs.length):=by
 have a:=kL ops ops [] (by simp) (λj i q=>by simp [getN] at q);have b:∀(j:Nat) (r:Rec),(List.replicate kk kR++(recs++List.replicate (ops.length - (kk+recs.length)) kR))[j]?=some r->(r=kR/\¬(kk<=j/\j<kk+recs.length))\/(kk<=j/\j<kk+recs.length/\recs[j - kk]?=some r):=by
  intro j r d;rcases aA j kk with h | h
  ·rw [jl (by simpa using h)] at d;exact .inl ⟨(List.mem_replicate.1 (gD d)).2,by omega⟩
  ·rw [la (by simpa using h)] at d;simp only [List.length_replicate] at d;rcases aA (j - kk) recs.length with k | k
   ·rw [jl k] at d;exact .inr ⟨h,by omega,d⟩
   ·rw [la k] at d;exact .inl ⟨(List.mem_replicate.1 (gD d)).2,by omega⟩
 refine ⟨by simp;omega,I,λj o r D O=>?_,λj o e D S q=>?_,λi j x y c J p=>?_,λi j x y c J p=>?_⟩
 ·rcases b j r O with ⟨rfl,z⟩ | ⟨Y,k,A⟩
  ·exact ⟨λt H=>(by cases H),λV=>absurd V z⟩
  ·obtain ⟨U,N⟩:=T (j - kk) o r (by rw [show kk+(j - kk)=j by omega];exact D) A;rw [show kk+(j - kk)=j by omega] at N;refine ⟨λt H=>U▸H,λ_=>N.eqv ?_⟩;rw [kx,jA];have K:=lC recs (0+kk) (j - kk) s0;have R:appD (0+kk) recs (λm=>decide (m<0+kk+(j - kk))) s0=appD (0+kk) recs (λm=>decide (m<j)) s0:=by rw [show 0+kk+(j - kk)=j by omega]
   rw [R] at K;rw [jx];exact K
 ·have:=ft ops 0 F j o e D S q;omega
 ·have:=iS (masks:=gg ops []) ops [] u i j x y (by simpa using c) (by simpa using J) p;simp only [jC,bM] at this;exact this.imp (a j i) λh=>h
 ·rcases b i x J with ⟨rfl,_⟩ | ⟨Y,k,A⟩
  ·exact .inr (by simp [kR,keys])
  ·rcases b j y p with ⟨rfl,_⟩ | ⟨Z,h5,Q⟩
   ·exact .inr (by simp [kR,keys])
   ·have hx':=L (i - kk) x A;have hy':=L (j - kk) y Q;rw [show kk+(i - kk)=i by omega] at hx';rw [show kk+(j - kk)=j by omega] at hy';rcases hx' with B | ⟨s,E⟩
    ·rcases hy' with C | ⟨v,G⟩
     ·by_cases f:(x.rd=[]/\x.wr=[])
      ·exact .inr (by simp [f.1,f.2,keys])
      ·by_cases g:(y.rd=[]/\y.wr=[])
       ·exact .inr (by simp [g.1,g.2,keys])
       ·have X:(⟨i,x.rd,keys x.wr⟩:TE)∈trf.filter λx=>!(x.rd.isEmpty&&x.ws.isEmpty):=by
         refine lM.2 ⟨B,?_⟩;simp only [keys,kj,xU,y3];rcases yk (x.rd=[]) with h | h
         ·exact .inr (by simpa using λl=>f ⟨h,l⟩)
         ·exact .inl h
        have W:(⟨j,y.rd,keys y.wr⟩:TE)∈trf.filter λx=>!(x.rd.isEmpty&&x.ws.isEmpty):=by
         refine lM.2 ⟨C,?_⟩;simp only [keys,kj,xU,y3];rcases yk (y.rd=[]) with h | h
         ·exact .inr (by simpa using λl=>g ⟨h,l⟩)
         ·exact .inl h
        have:=uR (lK w _ X _ W c) c;exact this.imp (a j i) λh=>h
     ·exact .inr (by simp [v,G,keys])
    ·exact .inr (by simp [s,E,keys])
theorem Inv.grow {n:Nat} {ι0 ι:Inj} {w0:Base} {s:St} {a:Act} {w:World} (h:Inv n ι0 w0 ι s a w) (m:Nat):Inv n ι0 w0 ι { s with nb:=s.nb+m } a w:=
 ⟨h.size,h.defers,h.tmps,⟨h.mem.inj,λb r A=>by have:=h.mem.low b r A;simp only;omega,h.mem.dom,h.mem.blk⟩,h.ext,h.new,h.fr,h.low,h.fz,h.gl⟩
theorem wh {ops:List Oper} (h:Hj ops=true):Region.noSelect ops.toArray=true:=by
 unfold Hj at h;unfold Region.noSelect;rw [List.all_toArray,bz];rw [bz] at h;intro o a;have:=h o a;cases b:o.op<;>simp_all
theorem AX {α:Type} {E:List Ent} (hE:∀x∈E,cD P x) {n:Nat} {ops:List Oper} {lim:Nat} {s:St} {k:Ex->St->Option α} {z:α} (h:A2 P E n ops lim s k=some z) (id:Nat):
  SemC P n (.region id ops.toArray true) s λex N=>k ex N=some z:=by
 intro ι0 w0 ι a w hI;unfold A2 at h;simp only at h;generalize hkk:DK (getN (gg ops []) lim) lim lim 0=kk at h;split at h
 case h_2=>cases h
 rename_i hok;simp only [av,yK,Ip] at hok;obtain ⟨⟨K,hb2,hb3⟩,U,l,L,H,hup,q⟩:=hok;have l:lim<ops.length:=ax l;have L:=ax L;have g:=kL ops ops [] (by simp) (λj i T=>by simp [getN] at T);have hI1:Inv n ι0 w0 ι { s with nb:=s.nb+8*ops.length } a { w with drawn:=w.drawn+1 }:=(hI.drawn (w.drawn+1)).grow _;let Q:Exit->Act->World->Prop:=λe a w=>e=.normal/\∃N A,Inv n ι0 w0 A N a w/\k .normal N=some z;refine om (λe a w (hq:Q e a w)=>?_) (wp_region_any (Q:=Q) U ?_)
 ·obtain ⟨rfl,N,A,u,O⟩:=hq;exact ⟨.normal,N,A,rfl,u,O⟩
 have hD0:∀i,Dn (Array.replicate ops.length false) i=false:=by
  intro i;unfold Dn;simp only [lB,I7];split<;>rfl
 have hsz:ops.toArray.size=(ops.length - kk)+kk:=by simp;omega
 rw [hsz,show Array.replicate ((ops.length - kk)+kk) false=Array.replicate ops.length false by rw [Nat.sub_add_cancel (by omega)]];refine zp (wh hb3) (λc a w hq=>by cases hq.1) kk 0 _ _ a H (by simp) (by omega) (λj hj=>by omega) (λj _=>hD0 j) hI1 (by rw [ie];exact h) λs0 a0 f h hI0 J hs0 G D=>?_;simp only [bM] at G D;simp only at J;rcases uF hE ((ops.take lim).drop kk) kk s0 [] (by simp;omega) h with ⟨recs,sf,trf,g1,B,g3,_,g5,g6⟩ | ⟨p,po,recs,sf,sp,trf,v,wr,rp,_,_,_,_,_,_,B,_⟩
 case inr=>cases B
 split at B
 case h_2=>cases B
 rename_i htr;have hl1:recs.length=lim - kk:=by rw [g1];simp;omega
 have hmid:∀j,j<lim - kk->((ops.take lim).drop kk)[j]?=ops[kk+j]?:=λj hj=>by
  rw [iP,B8,ad (by omega)]
 have F:=vL (P:=P) (n:=n) (nb0:=s.nb) (kk:=kk) (ops:=ops) (recs:=recs) (s0:=s0) (trf:=trf) K hb2 (by omega) J htr g5 (λj o r W hr=>by
  have hj:j<recs.length:=by
   rcases aA j recs.length with h' | h'
   ·exact h'
   ·rw [dx h'] at hr;cases hr
  exact g6 j o r (by rw [hmid j (by omega)];exact W) hr)
 split at B
 case h_2=>cases B
 rename_i o hoa;split at B
 case h_2=>cases B
 rename_i hga;have hst0:appD 0 (List.replicate kk kR++(recs++List.replicate (ops.length - (kk+recs.length)) kR)) (Dn f) s0=s0:=by
  rw [kx,jA,jx];exact rV recs _ _ _ λj _=>D _ (by omega)
 have hcnt:∀m,((List.range m).filter λi=>!Dn f i).length<=m - kk:=by
  intro m
  induction m with
  | zero=>simp
  | succ m ih=>
   rw [List.range_succ,List.filter_append,iQ];rcases aA m kk with hm | hm
   ·have:([m].filter λi=>!Dn f i)=[]:=by simp [G m hm]
    rw [this,jC];omega
   ·have:([m].filter λi=>!Dn f i).length<=1:=by simpa using List.length_filter_le (λi=>!Dn f i) [m]
    omega
 refine FT F (lim:=lim) (kk:=kk) l (λj u O=>⟨⟨u,by omega⟩,g lim j (kH hup j u (by omega))⟩) (λj u O=>g j lim (kH q j u (by omega))) (λfuel d ι1 a1 w1 hs1 I Z hdn0 hdn1 V hc1=>?_) _ f ι a0 _ hs0 G (λj o' e W y he T=>?_) (D lim L) (by rw [hst0];exact hI0) (λi hi hni b hb1' hb2'=>hI.fresh b (by omega)) (hcnt _)
 ·
  have hD1:appD 0 (List.replicate kk kR++(recs++List.replicate (ops.length - (kk+recs.length)) kR)) (Dn d) s0=recs.foldl St.put s0:=by
   rw [kx,jA,jx];exact tt recs _ _ _ λj hj=>I _ (by omega)
  rw [hD1] at V;have hI3:=V.eqv g3.symm;have hoa':ops.toArray[lim]?=some o:=by simpa using hoa
  unfold wpOp;rw [hoa'];simp only;rw [ad (by simp [Region.wanted,hga])];refine .inl (uh hE hI3 (λb T=>hI3.fresh b T) (aL _) B (λC ι2 a2 w2 O hI4=>?_) (λv N A x a' w' hk=>by cases hk));rcases uF hE (ops.drop (lim+1)) (lim+1) { C with nb:=C.nb+8*ops.length } [] (by simp;omega) O with ⟨recs2,sf2,trf2,q1,q2,q3,_,q5,q6⟩ | ⟨p,po,recs2,sf2,sp2,trf2,v,wr,rp,_,_,_,_,_,_,q2,_⟩
  case inr=>cases q2
  split at q2
  case h_2=>cases q2
  rename_i Y;have hl2:recs2.length=ops.length - (lim+1):=by rw [q1];simp
  have F2:=vL (P:=P) (n:=n) (nb0:=C.nb) (kk:=lim+1) (ops:=ops) (recs:=recs2) (s0:={ C with nb:=C.nb+8*ops.length }) (trf:=trf2) K hb2 (by omega) rfl Y q5 (λj o r W hr=>q6 j o r (by rw [iP];exact W) hr);have hlt:lim<d.size:=by omega
  have t:Dn (d.setIfInBounds lim true)=λj=>if j=lim then true else Dn d j:=by
   funext j;exact ta hlt j
  have hund:∀j,lim<j->j<ops.length->Dn (d.setIfInBounds lim true) j=false:=by
   intro j u O;rw [t];simp only [show ¬j=lim by omega,aE];cases y:Dn d j with
   | false=>rfl
   | true=>
    have:=g j lim (kH q j u (by omega)) _ hdn0 y;rw [Z] at this;cases this
  have S:∀M a3 w3,Inv n ι0 w0 M ((List.replicate (lim+1) kR++(recs2++List.replicate (ops.length - (lim+1+recs2.length)) kR)).foldl St.put { C with nb:=C.nb+8*ops.length }) a3 w3->Q .normal a3 w3:=by
   intro M a3 w3 hI5;rw [yJ,yJ,lY,lY] at hI5;exact ⟨rfl,sf2,M,hI5.eqv q3.symm,q2⟩
  have R:∀j,j<lim+1->Dn (d.setIfInBounds lim true) j=true:=by
   intro j hj;rw [t];by_cases h:j=lim
   ·simp [h]
   ·simp only [h,aE];exact I j (by omega)
  have hI6:Inv n ι0 w0 ι2 (appD 0 (List.replicate (lim+1) kR++(recs2++List.replicate (ops.length - (lim+1+recs2.length)) kR)) (Dn (d.setIfInBounds lim true)) { C with nb:=C.nb+8*ops.length }) a2 w2:=by
   rw [kx,jA,jx,rV recs2 _ _ _ λj hj=>hund _ (by omega) (by omega)];exact hI4.grow _
  have hc2:((List.range ops.length).filter λj=>!Dn (d.setIfInBounds lim true) j).length<=fuel:=by
   have:((List.range ops.length).filter λj=>!Dn (d.setIfInBounds lim true) j).length<((List.range ops.length).filter λj=>!Dn d j).length:=by
    rw [t];have X:((List.range ops.length).filter λj=>!(if j=lim then true else Dn d j))=((List.range ops.length).filter λj=>!Dn d j).filter λj=>decide (j≠lim):=by
     rw [xO];congr 1;funext j;by_cases hji:j=lim<;>simp [hji]
    rw [X];refine yE.2 ⟨lim,by simp [l,Z],by simp⟩
   omega
  exact vt F2 (ι0:=ι0) (w0:=w0) (kk:=lim+1) (λj u O=>⟨u,by omega⟩) S fuel _ ι2 a2 w2 (by simpa using hs1) R hdn1 hI6 (λi hi hni b hb1' hb2'=>hI4.fresh b (by omega)) hc2
 ·have u:=ft ops 0 K j o' e W he T;refine G _ ?_;rcases aA j kk with h | h
  ·omega
  ·rw [D j h] at y;cases y
theorem ED {α:Type} {E:List Ent} (a:∀x∈E,cD P x) {n:Nat} {ops:List Oper} {s:St} {k:Ex->St->Option α} {z:α} (h:GT P E n ops s k=some z) (id:Nat):
  SemC P n (.region id ops.toArray true) s λex b=>k ex b=some z:=by
 unfold GT at h;split at h
 ·exact zY a h id
 ·exact AX a h id
end Go.Abs
