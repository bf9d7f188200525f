
/- A region that draws its order, with an append in its middle.
   Conditions: none; generic over the program. -/
import Derived.Test.YtaogbalpingjhaaGreatDoorAbsV
set_option linter.unusedSimpArgs false
set_option linter.unusedVariables false
namespace Go.Abs
variable {P:Program}
theorem nj {f:Nat->Bool}:∀{r i:Nat},qX f r i=true->∀j,i<=j->j<i+r->f j=true
 | 0,_,_,j,_,_=>by omega
 | r+1,i,h,j,b,c=>by
  simp only [qX,az] at h;by_cases a:j=i
  ·rw [a];exact h.1
  ·exact nj h.2 j (by omega) (by omega)
theorem zG {n:Nat} {ops:Array Oper} {r i:Nat} {a:Array Bool} (h:rJ n ops (r+1) i a=true):
  ∃o x,ops[i]?=some o/\o.op=.move x/\o.guard=none/\rV n o.dst=true/\Region.free .any ops a i=true/\(Region.ready .any ops a).contains i=true/\rJ n ops r (i+1) (a.setIfInBounds i true)=true:=by
 simp only [rJ,az] at h;obtain ⟨b,g,f,d⟩:=h;split at b
 ·rename_i o k;simp only [az] at b;obtain ⟨c,j,e⟩:=b;split at c
  ·rename_i x hx;exact ⟨o,x,k,hx,by simpa using j,e,g,f,d⟩
  ·cases c
 ·cases b
theorem DC {α:Type} {n:Nat} {ops:List Oper} (f:Region.noSelect ops.toArray=true) {ι0:Inj} {w0:Base} {ι:Inj} {w:World} {Q:Exit->Act->World->Prop} (C:∀c a w,¬Q (.panic c) a w) {fuel:Nat} {k:St->Option α} {z:α}:
  ∀(r i:Nat) (b:Array Bool) (s:St) (a:Act),rJ n ops.toArray r i b=true->b.size=ops.length->i+r<=ops.length->(∀j,j<i->Dn b j=true)->(∀j,i<=j->Dn b j=false)->Inv n ι0 w0 ι s a w->
   runM ((ops.drop i).take r) s k=some z->
   (∀(s':St) (m:Act) (d:Array Bool),k s'=some z->Inv n ι0 w0 ι s' m w->s'.nb=s.nb->d.size=ops.length->(∀j,j<i+r->Dn d j=true)->(∀j,i+r<=j->Dn d j=false)->wpAny P .any ops.toArray Q fuel d m w)->
   wpAny P .any ops.toArray Q (fuel+r) b a w
 | 0,i,b,s,a,_,hs,_,p,y,e,h,A=>by
  simp only [kG,runM] at h;exact A s a b h e rfl hs (by simpa using p) (by simpa using y)
 | r+1,i,b,s,a,R,hs,O,p,y,e,h,A=>by
  obtain ⟨o,x,D,hx,G,T,E,M,q⟩:=zG R;have ho':ops[i]?=some o:=by simpa using D
  have g:(ops.drop i).take (r+1)=o::(ops.drop (i+1)).take r:=by
   have hi:i<ops.length:=by omega
   rw [bG hi] at ho';simp only [ah] at ho';rw [wZ hi,kE,ho']
  rw [g] at h;simp only [runM,hx] at h;obtain ⟨u,H,h⟩:=ak h;have I:=aZ e.tmps H;have hy:Yields P ops.toArray o (a.eval x) a:=.inl ⟨by simp [Region.wanted,G],λw=>by simp [execOp,hx]⟩;have hI':Inv n ι0 w0 ι (s.app o.dst (some u) [] s.nb) (a.put o.dst (a.eval x)) w:=
   ⟨by rw [k7];exact e.size,by rw [hZ];exact e.defers,e.tmps.app e.size T (λv t=>by cases t;exact I),e.mem,e.ext,e.new,e.fr,e.low,e.fz,e.gl⟩
  refine wpAny_take (fuel:=fuel+r) D f E M (λc a w h=>absurd h (C c _ w)) hy ?_;have l:i<b.size:=by omega
  refine DC f C r (i+1) _ _ _ q (by simpa using hs) (by omega) (λj B=>?_) (λj B=>?_) hI' h λs' m d J F S K L N=>A s' m d J F S K (λj B=>L j (by omega)) (λj B=>N j (by omega))
  ·rw [wP l];split
   ·rfl
   ·exact p j (by omega)
  ·rw [wP l,ab (by omega)];exact y j (by omega)
def nA:Rec:=⟨none,none,[],[]⟩
theorem uM (s:St):s.put nA=s:=rfl
theorem mz:∀(m i:Nat) (l:List Rec) (D:Nat->Bool) (s:St),appD i (List.replicate m nA++l) D s=appD (i+m) l D s
 | 0,i,l,D,s=>by simp
 | m+1,i,l,D,s=>by
  rw [qc,dL];simp only [appD,uM,ite_self];rw [mz m (i+1) l D s,show i+1+m=i+(m+1) by omega]
theorem lP:∀(m i:Nat) (D:Nat->Bool) (s:St),appD i (List.replicate m nA) D s=s
 | 0,i,D,s=>rfl
 | m+1,i,D,s=>by
  rw [qc];simp only [appD,uM,ite_self];exact lP m (i+1) D s
theorem lw:∀(l m:List Rec) (i:Nat) (D:Nat->Bool) (s:St),appD i (l++m) D s=appD (i+l.length) m D (appD i l D s)
 | [],m,i,D,s=>by simp [appD]
 | r::l,m,i,D,s=>by
  simp only [dL,appD,aG];rw [lw l m (i+1)];rw [show i+1+l.length=i+(l.length+1) by omega]
theorem tL:∀(l:List Rec) (i:Nat) (D:Nat->Bool) (s:St),(∀j,j<l.length->D (i+j)=false)->appD i l D s=s
 | [],i,D,s,_=>rfl
 | r::l,i,D,s,h=>by
  have a:=h 0 (by simp);simp only [cP] at a;simp only [appD,a,bE,aC];exact tL l (i+1) D s λj b=>by have:=h (j+1) (by simpa using b);rwa [show i+(j+1)=i+1+j by omega] at this
theorem nX:∀(m:Nat) (s:St),(List.replicate m nA).foldl St.put s=s
 | 0,_=>rfl
 | m+1,s=>by rw [qc,sq,uM];exact nX m s
theorem zk {n nb0 kk:Nat} {ops:List Oper} {recs:List Rec} {s0:St} {trf:List TE} (l:oJ 0 ops=true) (v:qy ops.toArray (js ops []) 0 [] ops=true)
  (J:kk+recs.length<=ops.length) (s:s0.nb=nb0+8*ops.length) (u:nF (js ops []) (trf.filter λx=>!(x.rd.isEmpty&&x.ws.isEmpty))=true)
  (L:∀j r,recs[j]?=some r->(⟨kk+j,r.rd,keys r.wr⟩:TE)∈trf\/(r.rd=[]/\r.wr=[]))
  (O:∀(j:Nat) (o:Oper) (r:Rec),ops[kk+j]?=some o->recs[j]?=some r->r.dst=o.dst/\sd P n nb0 ops (kk+j) o r ((recs.take j).foldl St.put s0)):
  DrawFacts P n nb0 ops (List.replicate kk nA++(recs++List.replicate (ops.length - (kk+recs.length)) nA)) s0 (λj=>kk<=j/\j<kk+recs.length):=by
 have a:=nH ops ops [] (by simp) (λj i C=>by simp [getN] at C);have b:∀(j:Nat) (r:Rec),(List.replicate kk nA++(recs++List.replicate (ops.length - (kk+recs.length)) nA))[j]?=some r->(r=nA/\¬(kk<=j/\j<kk+recs.length))\/(kk<=j/\j<kk+recs.length/\recs[j - kk]?=some r):=by
  intro j r d;rcases aE j kk with h | h
  ·rw [lK (by simpa using h)] at d;exact .inl ⟨(List.mem_replicate.1 (fY d)).2,by omega⟩
  ·rw [nN (by simpa using h)] at d;simp only [List.length_replicate] at d;rcases aE (j - kk) recs.length with k | k
   ·rw [lK k] at d;exact .inr ⟨h,by omega,d⟩
   ·rw [nN k] at d;exact .inl ⟨(List.mem_replicate.1 (fY d)).2,by omega⟩
 refine ⟨by simp;omega,s,λj o r E R=>?_,λj o e E T C=>?_,λi j x y c hx hy=>?_,λi j x y c hx hy=>?_⟩
 ·rcases b j r R with ⟨rfl,F⟩ | ⟨M,k,G⟩
  ·exact ⟨λt w=>(by cases w),λS=>absurd S F⟩
  ·obtain ⟨Q,K⟩:=O (j - kk) o r (by rw [show kk+(j - kk)=j by omega];exact E) G;rw [show kk+(j - kk)=j by omega] at K;refine ⟨λt w=>Q▸w,λ_=>K.eqv ?_⟩;rw [mz,lw];have I:=ou recs (0+kk) (j - kk) s0;have N:appD (0+kk) recs (λm=>decide (m<0+kk+(j - kk))) s0=appD (0+kk) recs (λm=>decide (m<j)) s0:=by rw [show 0+kk+(j - kk)=j by omega]
   rw [N] at I;rw [lP];exact I
 ·have:=ip ops 0 l j o e E T C;omega
 ·have:=ll (masks:=js ops []) ops [] v i j x y (by simpa using c) (by simpa using hx) hy;simp only [cA,cb] at this;exact this.imp (a j i) λh=>h
 ·rcases b i x hx with ⟨rfl,_⟩ | ⟨M,k,G⟩
  ·exact .inr (by simp [nA,keys])
  ·rcases b j y hy with ⟨rfl,_⟩ | ⟨W,V,U⟩
   ·exact .inr (by simp [nA,keys])
   ·have hx':=L (i - kk) x G;have hy':=L (j - kk) y U;rw [show kk+(i - kk)=i by omega] at hx';rw [show kk+(j - kk)=j by omega] at hy';rcases hx' with z | ⟨p,B⟩
    ·rcases hy' with A | ⟨H,q⟩
     ·by_cases g:(x.rd=[]/\x.wr=[])
      ·exact .inr (by simp [g.1,g.2,keys])
      ·by_cases f:(y.rd=[]/\y.wr=[])
       ·exact .inr (by simp [f.1,f.2,keys])
       ·have m1:(⟨i,x.rd,keys x.wr⟩:TE)∈trf.filter λx=>!(x.rd.isEmpty&&x.ws.isEmpty):=by
         refine lz.2 ⟨z,?_⟩;simp only [keys,kN,Ez,EM];rcases E4 (x.rd=[]) with h | h
         ·exact .inr (by simpa using λD=>g ⟨h,D⟩)
         ·exact .inl h
        have m2:(⟨j,y.rd,keys y.wr⟩:TE)∈trf.filter λx=>!(x.rd.isEmpty&&x.ws.isEmpty):=by
         refine lz.2 ⟨A,?_⟩;simp only [keys,kN,Ez,EM];rcases E4 (y.rd=[]) with h | h
         ·exact .inr (by simpa using λD=>f ⟨h,D⟩)
         ·exact .inl h
        have:=zV (oG u _ m1 _ m2 c) c;exact this.imp (a j i) λh=>h
     ·exact .inr (by simp [H,q,keys])
    ·exact .inr (by simp [p,B,keys])
theorem Inv.grow {n:Nat} {ι0 ι:Inj} {w0:Base} {s:St} {a:Act} {w:World} (h:Inv n ι0 w0 ι s a w) (m:Nat):Inv n ι0 w0 ι { s with nb:=s.nb+m } a w:=
 ⟨h.size,h.defers,h.tmps,⟨h.mem.inj,λb r C=>by have:=h.mem.low b r C;simp only;omega,h.mem.dom,h.mem.blk⟩,h.ext,h.new,h.fr,h.low,h.fz,h.gl⟩
theorem AO {ops:List Oper} (h:Og ops=true):Region.noSelect ops.toArray=true:=by
 unfold Og at h;unfold Region.noSelect;rw [List.all_toArray,bL];rw [bL] at h;intro o b;have:=h o b;cases a:o.op<;>simp_all
theorem Iz {α:Type} {E:List Ent} (hE:∀x∈E,dT P x) {n:Nat} {ops:List Oper} {lim:Nat} {s:St} {k:Ex->St->Option α} {z:α} (h:JX P E n ops lim s k=some z) (id:Nat):
  SemC P n (.region id ops.toArray true) s λex s'=>k ex s'=some z:=by
 intro ι0 w0 ι a w hI;unfold JX at h;simp only at h;generalize hkk:GN (getN (js ops []) lim) lim lim 0=kk at h;split at h
 case h_2=>cases h
 rename_i hok;simp only [az,Ek,RP] at hok;obtain ⟨⟨K,hb2,hb3⟩,hmix,l,O,G,hup,t⟩:=hok;have l:lim<ops.length:=aD l;have O:=aD O;have g:=nH ops ops [] (by simp) (λj i hb=>by simp [getN] at hb);have hI1:Inv n ι0 w0 ι { s with nb:=s.nb+8*ops.length } a { w with drawn:=w.drawn+1 }:=(hI.drawn (w.drawn+1)).grow _;let Q:Exit->Act->World->Prop:=λe a w=>e=.normal/\∃s' H,Inv n ι0 w0 H s' a w/\k .normal s'=some z;refine qL (λe a w (hq:Q e a w)=>?_) (wp_region_any (Q:=Q) hmix ?_)
 ·obtain ⟨rfl,s',H,q,M⟩:=hq;exact ⟨.normal,s',H,rfl,q,M⟩
 have hD0:∀i,Dn (Array.replicate ops.length false) i=false:=by
  intro i;unfold Dn;simp only [oL,Rr];split<;>rfl
 have hsz:ops.toArray.size=(ops.length - kk)+kk:=by simp;omega
 rw [hsz,show Array.replicate ((ops.length - kk)+kk) false=Array.replicate ops.length false by rw [Nat.sub_add_cancel (by omega)]];refine DC (AO hb3) (λc a w hq=>by cases hq.1) kk 0 _ _ a G (by simp) (by omega) (λj hj=>by omega) (λj _=>hD0 j) hI1 (by rw [cH];exact h) λs0 a0 f h hI0 J hs0 C D=>?_;simp only [cb] at C D;simp only at J;rcases xT hE ((ops.take lim).drop kk) kk s0 [] (by simp;omega) h with ⟨recs,sf,trf,g1,y,g3,_,g5,g6⟩ | ⟨p,po,recs,sf,sp,trf,v,wr,rp,_,_,_,_,_,_,y,_⟩
 case inr=>cases y
 split at y
 case h_2=>cases y
 rename_i htr;have hl1:recs.length=lim - kk:=by rw [g1];simp;omega
 have Y:∀j,j<lim - kk->((ops.take lim).drop kk)[j]?=ops[kk+j]?:=λj hj=>by
  rw [kO,JU,ae (by omega)]
 have F:=zk (P:=P) (n:=n) (nb0:=s.nb) (kk:=kk) (ops:=ops) (recs:=recs) (s0:=s0) (trf:=trf) K hb2 (by omega) J htr g5 (λj o r ho S=>by
  have hj:j<recs.length:=by
   rcases aE j recs.length with h' | h'
   ·exact h'
   ·rw [eX h'] at S;cases S
  exact g6 j o r (by rw [Y j (by omega)];exact ho) S)
 split at y
 case h_2=>cases y
 rename_i o hoa;split at y
 case h_2=>cases y
 rename_i hga;have hst0:appD 0 (List.replicate kk nA++(recs++List.replicate (ops.length - (kk+recs.length)) nA)) (Dn f) s0=s0:=by
  rw [mz,lw,lP];exact tL recs _ _ _ λj _=>D _ (by omega)
 have V:∀m,((List.range m).filter λi=>!Dn f i).length<=m - kk:=by
  intro m
  induction m with
  | zero=>simp
  | succ m ih=>
   rw [List.range_succ,List.filter_append,bv];rcases aE m kk with hm | hm
   ·have:([m].filter λi=>!Dn f i)=[]:=by simp [C m hm]
    rw [this,cA];omega
   ·have:([m].filter λi=>!Dn f i).length<=1:=by simpa using List.length_filter_le (λi=>!Dn f i) [m]
    omega
 refine MX F (lim:=lim) (kk:=kk) l (λj q M=>⟨⟨q,by omega⟩,g lim j (nj hup j q (by omega))⟩) (λj q M=>g j lim (nj t j q (by omega))) (λfuel d ι1 a1 w1 hs1 I W hdn0 hdn1 hI2 hc1=>?_) _ f ι a0 _ hs0 C (λj o' e ho A he hb=>?_) (D lim O) (by rw [hst0];exact hI0) (λi hi hni b hb1' X=>hI.fresh b (by omega)) (V _)
 ·
  have hD1:appD 0 (List.replicate kk nA++(recs++List.replicate (ops.length - (kk+recs.length)) nA)) (Dn d) s0=recs.foldl St.put s0:=by
   rw [mz,lw,lP];exact xB recs _ _ _ λj hj=>I _ (by omega)
  rw [hD1] at hI2;have R:=hI2.eqv g3.symm;have hoa':ops.toArray[lim]?=some o:=by simpa using hoa
  unfold wpOp;rw [hoa'];simp only;rw [ae (by simp [Region.wanted,hga])];refine .inl (xk hE R (λb hb=>R.fresh b hb) (aM _) y (λB U a2 w2 M hI4=>?_) (λv s' H x a' w' hk=>by cases hk));rcases xT hE (ops.drop (lim+1)) (lim+1) { B with nb:=B.nb+8*ops.length } [] (by simp;omega) M with ⟨recs2,sf2,trf2,q1,q2,q3,_,q5,q6⟩ | ⟨p,po,recs2,sf2,sp2,trf2,v,wr,rp,_,_,_,_,_,_,q2,_⟩
  case inr=>cases q2
  split at q2
  case h_2=>cases q2
  rename_i htr2;have hl2:recs2.length=ops.length - (lim+1):=by rw [q1];simp
  have F2:=zk (P:=P) (n:=n) (nb0:=B.nb) (kk:=lim+1) (ops:=ops) (recs:=recs2) (s0:={ B with nb:=B.nb+8*ops.length }) (trf:=trf2) K hb2 (by omega) rfl htr2 q5 (λj o r ho S=>q6 j o r (by rw [kO];exact ho) S);have hlt:lim<d.size:=by omega
  have u:Dn (d.setIfInBounds lim true)=λj=>if j=lim then true else Dn d j:=by
   funext j;exact wP hlt j
  have hund:∀j,lim<j->j<ops.length->Dn (d.setIfInBounds lim true) j=false:=by
   intro j q M;rw [u];simp only [show ¬j=lim by omega,aC];cases A:Dn d j with
   | false=>rfl
   | true=>
    have:=g j lim (nj t j q (by omega)) _ hdn0 A;rw [W] at this;cases this
  have hfin:∀L a3 w3,Inv n ι0 w0 L ((List.replicate (lim+1) nA++(recs2++List.replicate (ops.length - (lim+1+recs2.length)) nA)).foldl St.put { B with nb:=B.nb+8*ops.length }) a3 w3->Q .normal a3 w3:=by
   intro L a3 w3 Z;rw [Dt,Dt,nX,nX] at Z;exact ⟨rfl,sf2,L,Z.eqv q3.symm,q2⟩
  have N:∀j,j<lim+1->Dn (d.setIfInBounds lim true) j=true:=by
   intro j hj;rw [u];by_cases h:j=lim
   ·simp [h]
   ·simp only [h,aC];exact I j (by omega)
  have hI6:Inv n ι0 w0 U (appD 0 (List.replicate (lim+1) nA++(recs2++List.replicate (ops.length - (lim+1+recs2.length)) nA)) (Dn (d.setIfInBounds lim true)) { B with nb:=B.nb+8*ops.length }) a2 w2:=by
   rw [mz,lw,lP,tL recs2 _ _ _ λj hj=>hund _ (by omega) (by omega)];exact hI4.grow _
  have hc2:((List.range ops.length).filter λj=>!Dn (d.setIfInBounds lim true) j).length<=fuel:=by
   have:((List.range ops.length).filter λj=>!Dn (d.setIfInBounds lim true) j).length<((List.range ops.length).filter λj=>!Dn d j).length:=by
    rw [u];have T:((List.range ops.length).filter λj=>!(if j=lim then true else Dn d j))=((List.range ops.length).filter λj=>!Dn d j).filter λj=>decide (j≠lim):=by
     rw [Dp];congr 1;funext j;by_cases hji:j=lim<;>simp [hji]
    rw [T];refine CY.2 ⟨lim,by simp [l,W],by simp⟩
   omega
  exact Ai F2 (ι0:=ι0) (w0:=w0) (kk:=lim+1) (λj q M=>⟨q,by omega⟩) hfin fuel _ U a2 w2 (by simpa using hs1) N hdn1 hI6 (λi hi hni b hb1' X=>hI4.fresh b (by omega)) hc2
 ·have q:=ip ops 0 K j o' e ho he hb;refine C _ ?_;rcases aE j kk with h | h
  ·omega
  ·rw [D j h] at A;cases A
theorem Ls {α:Type} {E:List Ent} (a:∀x∈E,dT P x) {n:Nat} {ops:List Oper} {s:St} {k:Ex->St->Option α} {z:α} (h:Oo P E n ops s k=some z) (id:Nat):
  SemC P n (.region id ops.toArray true) s λex s'=>k ex s'=some z:=by
 unfold Oo at h;split at h
 ·exact FT a h id
 ·exact Iz a h id
end Go.Abs
