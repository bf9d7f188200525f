
/- A region that draws its order, with an append in its middle.
   Conditions: none; generic over the program. -/
import Derived.Test.YthemneooekobkaaGreatDoorAbsV
set_option linter.unusedSimpArgs false
set_option linter.unusedVariables false
namespace Go.Abs
variable {P:Program}
theorem qF {f:Nat->Bool}:∀{r i:Nat},vg f r i=true->∀j,i<=j->j<i+r->f j=true
 | 0,_,_,j,_,_=>by omega
 | r+1,i,h,j,c,b=>by
  simp only [vg,az] at h;by_cases a:j=i
  ·rw [a];exact h.1
  ·exact qF h.2 j (by omega) (by omega)
theorem Ds {n:Nat} {ops:Array Oper} {r i:Nat} {a:Array Bool} (h:vR n ops (r+1) i a=true):
  ∃o x,ops[i]?=some o/\o.op=.move x/\o.guard=none/\vv n o.dst=true/\Region.free .any ops a i=true/\(Region.ready .any ops a).contains i=true/\vR n ops r (i+1) (a.setIfInBounds i true)=true:=by
 simp only [vR,az] at h;obtain ⟨b,j,k,d⟩:=h;split at b
 ·rename_i o g;simp only [az] at b;obtain ⟨c,e,f⟩:=b;split at c
  ·rename_i x hx;exact ⟨o,x,g,hx,by simpa using e,f,j,k,d⟩
  ·cases c
 ·cases b
theorem Ib {α:Type} {n:Nat} {ops:List Oper} (f:Region.noSelect ops.toArray=true) {ι0:Inj} {w0:Base} {ι:Inj} {w:World} {Q:Exit->Act->World->Prop} (C:∀c a w,¬Q (.panic c) a w) {fuel:Nat} {k:St->Option α} {z:α}:
  ∀(r i:Nat) (b:Array Bool) (s:St) (a:Act),vR n ops.toArray r i b=true->b.size=ops.length->i+r<=ops.length->(∀j,j<i->Dn b j=true)->(∀j,i<=j->Dn b j=false)->Inv n ι0 w0 ι s a w->
   runM ((ops.drop i).take r) s k=some z->
   (∀(s':St) (m:Act) (d:Array Bool),k s'=some z->Inv n ι0 w0 ι s' m w->s'.nb=s.nb->d.size=ops.length->(∀j,j<i+r->Dn d j=true)->(∀j,i+r<=j->Dn d j=false)->wpAny P .any ops.toArray Q fuel d m w)->
   wpAny P .any ops.toArray Q (fuel+r) b a w
 | 0,i,b,s,a,_,hs,_,t,A,e,h,p=>by
  simp only [nj,runM] at h;exact p s a b h e rfl hs (by simpa using t) (by simpa using A)
 | r+1,i,b,s,a,N,hs,K,t,A,e,h,p=>by
  obtain ⟨o,x,D,hx,T,G,F,L,y⟩:=Ds N;have ho':ops[i]?=some o:=by simpa using D
  have g:(ops.drop i).take (r+1)=o::(ops.drop (i+1)).take r:=by
   have hi:i<ops.length:=by omega
   rw [aT hi] at ho';simp only [av] at ho';rw [rP hi,np,ho']
  rw [g] at h;simp only [runM,hx] at h;obtain ⟨u,M,h⟩:=ax h;have E:=bu e.tmps M;have hy:Yields P ops.toArray o (a.eval x) a:=.inl ⟨by simp [Region.wanted,T],λw=>by simp [execOp,hx]⟩;have hI':Inv n ι0 w0 ι (s.app o.dst (some u) [] s.nb) (a.put o.dst (a.eval x)) w:=
   ⟨by rw [nG];exact e.size,by rw [jU];exact e.defers,e.tmps.app e.size G (λv q=>by cases q;exact E),e.mem,e.ext,e.new,e.fr,e.low,e.fz,e.gl⟩
  refine wpAny_take (fuel:=fuel+r) D f F L (λc a w h=>absurd h (C c _ w)) hy ?_;have l:i<b.size:=by omega
  refine Ib f C r (i+1) _ _ _ y (by simpa using hs) (by omega) (λj B=>?_) (λj B=>?_) hI' h λs' m d S O J I R H=>p s' m d S O J I (λj B=>R j (by omega)) (λj B=>H j (by omega))
  ·rw [AQ l];split
   ·rfl
   ·exact t j (by omega)
  ·rw [AQ l,ab (by omega)];exact A j (by omega)
def qL:Rec:=⟨none,none,[],[]⟩
theorem yE (s:St):s.put qL=s:=rfl
theorem qa:∀(m i:Nat) (l:List Rec) (D:Nat->Bool) (s:St),appD i (List.replicate m qL++l) D s=appD (i+m) l D s
 | 0,i,l,D,s=>by simp
 | m+1,i,l,D,s=>by
  rw [uq,eK];simp only [appD,yE,ite_self];rw [qa m (i+1) l D s,show i+1+m=i+(m+1) by omega]
theorem om:∀(m i:Nat) (D:Nat->Bool) (s:St),appD i (List.replicate m qL) D s=s
 | 0,i,D,s=>rfl
 | m+1,i,D,s=>by
  rw [uq];simp only [appD,yE,ite_self];exact om m (i+1) D s
theorem ov:∀(l m:List Rec) (i:Nat) (D:Nat->Bool) (s:St),appD i (l++m) D s=appD (i+l.length) m D (appD i l D s)
 | [],m,i,D,s=>by simp [appD]
 | r::l,m,i,D,s=>by
  simp only [eK,appD,aC];rw [ov l m (i+1)];rw [show i+1+l.length=i+(l.length+1) by omega]
theorem zj:∀(l:List Rec) (i:Nat) (D:Nat->Bool) (s:St),(∀j,j<l.length->D (i+j)=false)->appD i l D s=s
 | [],i,D,s,_=>rfl
 | r::l,i,D,s,h=>by
  have a:=h 0 (by simp);simp only [cM] at a;simp only [appD,a,bz,aE];exact zj l (i+1) D s λj b=>by have:=h (j+1) (by simpa using b);rwa [show i+(j+1)=i+1+j by omega] at this
theorem se:∀(m:Nat) (s:St),(List.replicate m qL).foldl St.put s=s
 | 0,_=>rfl
 | m+1,s=>by rw [uq,vU,yE];exact se m s
theorem EV {n nb0 kk:Nat} {ops:List Oper} {recs:List Rec} {s0:St} {trf:List TE} (A:rL 0 ops=true) (q:us ops.toArray (lG ops []) 0 [] ops=true)
  (J:kk+recs.length<=ops.length) (D:s0.nb=nb0+8*ops.length) (B:qo (lG ops []) (trf.filter λx=>!(x.rd.isEmpty&&x.ws.isEmpty))=true)
  (K:∀j r,recs[j]?=some r->(⟨kk+j,r.rd,keys r.wr⟩:TE)∈trf\/(r.rd=[]/\r.wr=[]))
  (O:∀(j:Nat) (o:Oper) (r:Rec),ops[kk+j]?=some o->recs[j]?=some r->r.dst=o.dst/\vt P n nb0 ops (kk+j) o r ((recs.take j).foldl St.put s0)):
  DrawFacts P n nb0 ops (List.replicate kk qL++(recs++List.replicate (ops.length - (kk+recs.length)) qL)) s0 (λj=>kk<=j/\j<kk+recs.length):=by
 have a:=qS ops ops [] (by simp) (λj i s=>by simp [getN] at s);have b:∀(j:Nat) (r:Rec),(List.replicate kk qL++(recs++List.replicate (ops.length - (kk+recs.length)) qL))[j]?=some r->(r=qL/\¬(kk<=j/\j<kk+recs.length))\/(kk<=j/\j<kk+recs.length/\recs[j - kk]?=some r):=by
  intro j r d;rcases aH j kk with h | h
  ·rw [oe (by simpa using h)] at d;exact .inl ⟨(List.mem_replicate.1 (fc d)).2,by omega⟩
  ·rw [ra (by simpa using h)] at d;simp only [List.length_replicate] at d;rcases aH (j - kk) recs.length with k | k
   ·rw [oe k] at d;exact .inr ⟨h,by omega,d⟩
   ·rw [ra k] at d;exact .inl ⟨(List.mem_replicate.1 (fc d)).2,by omega⟩
 refine ⟨by simp;omega,D,λj o r H S=>?_,λj o e H R s=>?_,λi j x y c hx hy=>?_,λi j x y c hx hy=>?_⟩
 ·rcases b j r S with ⟨rfl,v⟩ | ⟨N,k,E⟩
  ·exact ⟨λt u=>(by cases u),λT=>absurd T v⟩
  ·obtain ⟨Q,I⟩:=O (j - kk) o r (by rw [show kk+(j - kk)=j by omega];exact H) E;rw [show kk+(j - kk)=j by omega] at I;refine ⟨λt u=>Q▸u,λ_=>I.eqv ?_⟩;rw [qa,ov];have L:=rl recs (0+kk) (j - kk) s0;have U:appD (0+kk) recs (λm=>decide (m<0+kk+(j - kk))) s0=appD (0+kk) recs (λm=>decide (m<j)) s0:=by rw [show 0+kk+(j - kk)=j by omega]
   rw [U] at L;rw [om];exact L
 ·have:=ki ops 0 A j o e H R s;omega
 ·have:=nJ (masks:=lG ops []) ops [] q i j x y (by simpa using c) (by simpa using hx) hy;simp only [bh,dc] at this;exact this.imp (a j i) λh=>h
 ·rcases b i x hx with ⟨rfl,_⟩ | ⟨N,k,E⟩
  ·exact .inr (by simp [qL,keys])
  ·rcases b j y hy with ⟨rfl,_⟩ | ⟨V,W,M⟩
   ·exact .inr (by simp [qL,keys])
   ·have hx':=K (i - kk) x E;have hy':=K (j - kk) y M;rw [show kk+(i - kk)=i by omega] at hx';rw [show kk+(j - kk)=j by omega] at hy';rcases hx' with G | ⟨w,p⟩
    ·rcases hy' with z | ⟨F,l⟩
     ·by_cases f:(x.rd=[]/\x.wr=[])
      ·exact .inr (by simp [f.1,f.2,keys])
      ·by_cases g:(y.rd=[]/\y.wr=[])
       ·exact .inr (by simp [g.1,g.2,keys])
       ·have m1:(⟨i,x.rd,keys x.wr⟩:TE)∈trf.filter λx=>!(x.rd.isEmpty&&x.ws.isEmpty):=by
         refine mg.2 ⟨G,?_⟩;simp only [keys,jW,Fg,BS];rcases Hq (x.rd=[]) with h | h
         ·exact .inr (by simpa using λC=>f ⟨h,C⟩)
         ·exact .inl h
        have m2:(⟨j,y.rd,keys y.wr⟩:TE)∈trf.filter λx=>!(x.rd.isEmpty&&x.ws.isEmpty):=by
         refine mg.2 ⟨z,?_⟩;simp only [keys,jW,Fg,BS];rcases Hq (y.rd=[]) with h | h
         ·exact .inr (by simpa using λC=>g ⟨h,C⟩)
         ·exact .inl h
        have:=ET (rk B _ m1 _ m2 c) c;exact this.imp (a j i) λh=>h
     ·exact .inr (by simp [F,l,keys])
    ·exact .inr (by simp [w,p,keys])
theorem Inv.grow {n:Nat} {ι0 ι:Inj} {w0:Base} {s:St} {a:Act} {w:World} (h:Inv n ι0 w0 ι s a w) (m:Nat):Inv n ι0 w0 ι { s with nb:=s.nb+m } a w:=
 ⟨h.size,h.defers,h.tmps,⟨h.mem.inj,λb r C=>by have:=h.mem.low b r C;simp only;omega,h.mem.dom,h.mem.blk⟩,h.ext,h.new,h.fr,h.low,h.fz,h.gl⟩
theorem Fz {ops:List Oper} (h:TQ ops=true):Region.noSelect ops.toArray=true:=by
 unfold TQ at h;unfold Region.noSelect;rw [List.all_toArray,bW];rw [bW] at h;intro o a;have:=h o a;cases b:o.op<;>simp_all
theorem MS {α:Type} {E:List Ent} (hE:∀x∈E,fM P x) {n:Nat} {ops:List Oper} {lim:Nat} {s:St} {k:Ex->St->Option α} {z:α} (h:OK P E n ops lim s k=some z) (id:Nat):
  SemC P n (.region id ops.toArray true) s λex s'=>k ex s'=some z:=by
 intro ι0 w0 ι a w hI;unfold OK at h;simp only at h;generalize hkk:LL (getN (lG ops []) lim) lim lim 0=kk at h;split at h
 case h_2=>cases h
 rename_i hok;simp only [az,IJ,Yp] at hok;obtain ⟨⟨O,hb2,hb3⟩,S,l,L,y,hup,u⟩:=hok;have l:lim<ops.length:=aL l;have L:=aL L;have g:=qS ops ops [] (by simp) (λj i X=>by simp [getN] at X);have hI1:Inv n ι0 w0 ι { s with nb:=s.nb+8*ops.length } a { w with drawn:=w.drawn+1 }:=(hI.drawn (w.drawn+1)).grow _;let Q:Exit->Act->World->Prop:=λe a w=>e=.normal/\∃s' D,Inv n ι0 w0 D s' a w/\k .normal s'=some z;refine uB (λe a w (hq:Q e a w)=>?_) (wp_region_any (Q:=Q) S ?_)
 ·obtain ⟨rfl,s',D,q,N⟩:=hq;exact ⟨.normal,s',D,rfl,q,N⟩
 have hD0:∀i,Dn (Array.replicate ops.length false) i=false:=by
  intro i;unfold Dn;simp only [rq,WP];split<;>rfl
 have hsz:ops.toArray.size=(ops.length - kk)+kk:=by simp;omega
 rw [hsz,show Array.replicate ((ops.length - kk)+kk) false=Array.replicate ops.length false by rw [Nat.sub_add_cancel (by omega)]];refine Ib (Fz hb3) (λc a w hq=>by cases hq.1) kk 0 _ _ a y (by simp) (by omega) (λj W=>by omega) (λj _=>hD0 j) hI1 (by rw [cU];exact h) λs0 a0 f h hI0 J hs0 G B=>?_;simp only [dc] at G B;simp only at J;rcases Bl hE ((ops.take lim).drop kk) kk s0 [] (by simp;omega) h with ⟨recs,sf,trf,g1,H,g3,_,g5,g6⟩ | ⟨p,po,recs,sf,sp,trf,v,wr,rp,_,_,_,_,_,_,H,_⟩
 case inr=>cases H
 split at H
 case h_2=>cases H
 rename_i htr;have hl1:recs.length=lim - kk:=by rw [g1];simp;omega
 have hmid:∀j,j<lim - kk->((ops.take lim).drop kk)[j]?=ops[kk+j]?:=λj W=>by
  rw [lV,L6,ae (by omega)]
 have F:=EV (P:=P) (n:=n) (nb0:=s.nb) (kk:=kk) (ops:=ops) (recs:=recs) (s0:=s0) (trf:=trf) O hb2 (by omega) J htr g5 (λj o r ho hr=>by
  have W:j<recs.length:=by
   rcases aH j recs.length with h' | h'
   ·exact h'
   ·rw [ga h'] at hr;cases hr
  exact g6 j o r (by rw [hmid j (by omega)];exact ho) hr)
 split at H
 case h_2=>cases H
 rename_i o hoa;split at H
 case h_2=>cases H
 rename_i hga;have hst0:appD 0 (List.replicate kk qL++(recs++List.replicate (ops.length - (kk+recs.length)) qL)) (Dn f) s0=s0:=by
  rw [qa,ov,om];exact zj recs _ _ _ λj _=>B _ (by omega)
 have hcnt:∀m,((List.range m).filter λi=>!Dn f i).length<=m - kk:=by
  intro m
  induction m with
  | zero=>simp
  | succ m ih=>
   rw [List.range_succ,M9,aO];rcases aH m kk with hm | hm
   ·have:([m].filter λi=>!Dn f i)=[]:=by simp [G m hm]
    rw [this,bh];omega
   ·have:([m].filter λi=>!Dn f i).length<=1:=by simpa using List.length_filter_le (λi=>!Dn f i) [m]
    omega
 refine PI F (lim:=lim) (kk:=kk) l (λj q N=>⟨⟨q,by omega⟩,g lim j (qF hup j q (by omega))⟩) (λj q N=>g j lim (qF u j q (by omega))) (λfuel d ι1 a1 w1 hs1 I hn1 U V hI2 hc1=>?_) _ f ι a0 _ hs0 G (λj o' e ho C he X=>?_) (B lim L) (by rw [hst0];exact hI0) (λi hi hni b hb1' hb2'=>hI.fresh b (by omega)) (hcnt _)
 ·
  have hD1:appD 0 (List.replicate kk qL++(recs++List.replicate (ops.length - (kk+recs.length)) qL)) (Dn d) s0=recs.foldl St.put s0:=by
   rw [qa,ov,om];exact Bh recs _ _ _ λj W=>I _ (by omega)
  rw [hD1] at hI2;have hI3:=hI2.eqv g3.symm;have hoa':ops.toArray[lim]?=some o:=by simpa using hoa
  unfold wpOp;rw [hoa'];simp only;rw [ae (by simp [Region.wanted,hga])];refine .inl (By hE hI3 (λb X=>hI3.fresh b X) (aX _) H (λA Y a2 w2 N R=>?_) (λv s' D x a' w' hk=>by cases hk));rcases Bl hE (ops.drop (lim+1)) (lim+1) { A with nb:=A.nb+8*ops.length } [] (by simp;omega) N with ⟨recs2,sf2,trf2,q1,q2,q3,_,q5,q6⟩ | ⟨p,po,recs2,sf2,sp2,trf2,v,wr,rp,_,_,_,_,_,_,q2,_⟩
  case inr=>cases q2
  split at q2
  case h_2=>cases q2
  rename_i Z;have hl2:recs2.length=ops.length - (lim+1):=by rw [q1];simp
  have F2:=EV (P:=P) (n:=n) (nb0:=A.nb) (kk:=lim+1) (ops:=ops) (recs:=recs2) (s0:={ A with nb:=A.nb+8*ops.length }) (trf:=trf2) O hb2 (by omega) rfl Z q5 (λj o r ho hr=>q6 j o r (by rw [lV];exact ho) hr);have hlt:lim<d.size:=by omega
  have t:Dn (d.setIfInBounds lim true)=λj=>if j=lim then true else Dn d j:=by
   funext j;exact AQ hlt j
  have hund:∀j,lim<j->j<ops.length->Dn (d.setIfInBounds lim true) j=false:=by
   intro j q N;rw [t];simp only [show ¬j=lim by omega,aE];cases C:Dn d j with
   | false=>rfl
   | true=>
    have:=g j lim (qF u j q (by omega)) _ U C;rw [hn1] at this;cases this
  have hfin:∀M a3 w3,Inv n ι0 w0 M ((List.replicate (lim+1) qL++(recs2++List.replicate (ops.length - (lim+1+recs2.length)) qL)).foldl St.put { A with nb:=A.nb+8*ops.length }) a3 w3->Q .normal a3 w3:=by
   intro M a3 w3 hI5;rw [I7,I7,se,se] at hI5;exact ⟨rfl,sf2,M,hI5.eqv q3.symm,q2⟩
  have K:∀j,j<lim+1->Dn (d.setIfInBounds lim true) j=true:=by
   intro j W;rw [t];by_cases h:j=lim
   ·simp [h]
   ·simp only [h,aE];exact I j (by omega)
  have hI6:Inv n ι0 w0 Y (appD 0 (List.replicate (lim+1) qL++(recs2++List.replicate (ops.length - (lim+1+recs2.length)) qL)) (Dn (d.setIfInBounds lim true)) { A with nb:=A.nb+8*ops.length }) a2 w2:=by
   rw [qa,ov,om,zj recs2 _ _ _ λj W=>hund _ (by omega) (by omega)];exact R.grow _
  have hc2:((List.range ops.length).filter λj=>!Dn (d.setIfInBounds lim true) j).length<=fuel:=by
   have:((List.range ops.length).filter λj=>!Dn (d.setIfInBounds lim true) j).length<((List.range ops.length).filter λj=>!Dn d j).length:=by
    rw [t];have T:((List.range ops.length).filter λj=>!(if j=lim then true else Dn d j))=((List.range ops.length).filter λj=>!Dn d j).filter λj=>decide (j≠lim):=by
     rw [Ij];congr 1;funext j;by_cases hji:j=lim<;>simp [hji]
    rw [T];refine BX.2 ⟨lim,by simp [l,hn1],by simp⟩
   omega
  exact Ew F2 (ι0:=ι0) (w0:=w0) (kk:=lim+1) (λj q N=>⟨q,by omega⟩) hfin fuel _ Y a2 w2 (by simpa using hs1) K V hI6 (λi hi hni b hb1' hb2'=>R.fresh b (by omega)) hc2
 ·have q:=ki ops 0 O j o' e ho he X;refine G _ ?_;rcases aH j kk with h | h
  ·omega
  ·rw [B j h] at C;cases C
theorem Qj {α:Type} {E:List Ent} (a:∀x∈E,fM P x) {n:Nat} {ops:List Oper} {s:St} {k:Ex->St->Option α} {z:α} (h:UP P E n ops s k=some z) (id:Nat):
  SemC P n (.region id ops.toArray true) s λex s'=>k ex s'=some z:=by
 unfold UP at h;split at h
 ·exact J9 a h id
 ·exact MS a h id
end Go.Abs
