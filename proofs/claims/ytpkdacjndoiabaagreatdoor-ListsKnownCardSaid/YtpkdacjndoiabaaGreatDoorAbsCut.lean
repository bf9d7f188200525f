/- A region that draws its order, with an append in its middle.
   Conditions: none; generic over the program. -/
import Derived.Test.YtpkdacjndoiabaaGreatDoorAbsV
set_option linter.unusedSimpArgs false
set_option linter.unusedVariables false
namespace Go.Abs
variable {P:Program}
theorem oZ {f:Nat->Bool}:∀{r i:Nat},tq f r i=true->∀j,i<=j->j<i+r->f j=true
 | 0,_,_,j,_,_=>by omega
 | r+1,i,h,j,h1,h2=>by
  simp only [tq,az] at h
  by_cases hj:j=i
  ·rw [hj];exact h.1
  ·exact oZ h.2 j (by omega) (by omega)
theorem Ci {n:Nat} {ops:Array Oper} {r i:Nat} {listed:Array Bool} (h:t7 n ops (r+1) i listed=true):
  ∃o x,ops[i]?=some o/\o.op=.move x/\o.guard=none/\ul n o.dst=true/\Region.free .any ops listed i=true/\(Region.ready .any ops listed).contains i=true/\t7 n ops r (i+1) (listed.setIfInBounds i true)=true:=by
 simp only [t7,az] at h
 obtain ⟨h1,h2,h3,h4⟩:=h
 split at h1
 ·rename_i o ho
  simp only [az] at h1
  obtain ⟨h5,h6,h7⟩:=h1
  split at h5
  ·rename_i x hx
   exact ⟨o,x,ho,hx,by simpa using h6,h7,h2,h3,h4⟩
  ·cases h5
 ·cases h1
theorem Gk {α:Type} {n:Nat} {ops:List Oper} (hsel:Region.noSelect ops.toArray=true) {ι0:Inj} {w0:Base} {ι:Inj} {w:World} {Q:Exit->Act->World->Prop} (hQ:∀c a w,¬Q (.panic c) a w) {fuel:Nat} {k:St->Option α} {z:α}:
  ∀(r i:Nat) (listed:Array Bool) (s:St) (a:Act),t7 n ops.toArray r i listed=true->listed.size=ops.length->i+r<=ops.length->(∀j,j<i->Dn listed j=true)->(∀j,i<=j->Dn listed j=false)->Inv n ι0 w0 ι s a w->
   runM ((ops.drop i).take r) s k=some z->
   (∀(s':St) (a':Act) (listed':Array Bool),k s'=some z->Inv n ι0 w0 ι s' a' w->s'.nb=s.nb->listed'.size=ops.length->(∀j,j<i+r->Dn listed' j=true)->(∀j,i+r<=j->Dn listed' j=false)->wpAny P .any ops.toArray Q fuel listed' a' w)->
   wpAny P .any ops.toArray Q (fuel+r) listed a w
 | 0,i,listed,s,a,_,hs,_,hD,hU,hI,h,hk=>by
  simp only [nM,runM] at h
  exact hk s a listed h hI rfl hs (by simpa using hD) (by simpa using hU)
 | r+1,i,listed,s,a,hl,hs,hle,hD,hU,hI,h,hk=>by
  obtain ⟨o,x,ho,hx,hg,hd,hf,hr,hl'⟩:=Ci hl
  have ho':ops[i]?=some o:=by simpa using ho
  have hcons:(ops.drop i).take (r+1)=o::(ops.drop (i+1)).take r:=by
   have hi:i<ops.length:=by omega
   rw [bp hi] at ho'
   simp only [aq] at ho'
   rw [wU hi,pX,ho']
  rw [hcons] at h
  simp only [runM,hx] at h
  obtain ⟨u,hu,h⟩:=av h
  have hv:=bn hI.tmps hu
  have hy:Yields P ops.toArray o (a.eval x) a:=.inl ⟨by simp [Region.wanted,hg],λw=>by simp [execOp,hx]⟩
  have hI':Inv n ι0 w0 ι (s.app o.dst (some u) [] s.nb) (a.put o.dst (a.eval x)) w:=
   ⟨by rw [mP];exact hI.size,by rw [je];exact hI.defers,hI.tmps.app hI.size hd (λv hv'=>by cases hv';exact hv),hI.mem,hI.ext,hI.new,hI.fr,hI.low,hI.fz,hI.gl⟩
  refine wpAny_take (fuel:=fuel+r) ho hsel hf hr (λc a w h=>absurd h (hQ c _ w)) hy ?_
  have hlt:i<listed.size:=by omega
  refine Gk hsel hQ r (i+1) _ _ _ hl' (by simpa using hs) (by omega) (λj hj=>?_) (λj hj=>?_) hI' h λs' a' listed' e1 e2 e3 e4 e5 e6=>hk s' a' listed' e1 e2 e3 e4 (λj hj=>e5 j (by omega)) (λj hj=>e6 j (by omega))
  ·rw [yg hlt]
   split
   ·rfl
   ·exact hD j (by omega)
  ·rw [yg hlt,ab (by omega)]
   exact hU j (by omega)
def oQ:Rec:=⟨none,none,[],[]⟩
theorem wS (s:St):s.put oQ=s:=rfl
theorem oI:∀(m i:Nat) (l:List Rec) (D:Nat->Bool) (s:St),appD i (List.replicate m oQ++l) D s=appD (i+m) l D s
 | 0,i,l,D,s=>by simp
 | m+1,i,l,D,s=>by
  rw [rQ,fP]
  simp only [appD,wS,ite_self]
  rw [oI m (i+1) l D s,show i+1+m=i+(m+1) by omega]
theorem na:∀(m i:Nat) (D:Nat->Bool) (s:St),appD i (List.replicate m oQ) D s=s
 | 0,i,D,s=>rfl
 | m+1,i,D,s=>by
  rw [rQ]
  simp only [appD,wS,ite_self]
  exact na m (i+1) D s
theorem nA:∀(l m:List Rec) (i:Nat) (D:Nat->Bool) (s:St),appD i (l++m) D s=appD (i+l.length) m D (appD i l D s)
 | [],m,i,D,s=>by simp [appD]
 | r::l,m,i,D,s=>by
  simp only [fP,appD,aD]
  rw [nA l m (i+1)]
  rw [show i+1+l.length=i+(l.length+1) by omega]
theorem xd:∀(l:List Rec) (i:Nat) (D:Nat->Bool) (s:St),(∀j,j<l.length->D (i+j)=false)->appD i l D s=s
 | [],i,D,s,_=>rfl
 | r::l,i,D,s,h=>by
  have h0:=h 0 (by simp)
  simp only [cD] at h0
  simp only [appD,h0,bP,aE]
  exact xd l (i+1) D s λj hj=>by have:=h (j+1) (by simpa using hj);rwa [show i+(j+1)=i+1+j by omega] at this
theorem qF:∀(m:Nat) (s:St),(List.replicate m oQ).foldl St.put s=s
 | 0,_=>rfl
 | m+1,s=>by rw [rQ,uE,wS];exact qF m s
theorem A3 {n nb0 kk:Nat} {ops:List Oper} {recs:List Rec} {s0:St} {trf:List TE} (hb1:qL 0 ops=true) (hb2:tj ops.toArray (km ops []) 0 [] ops=true)
  (hlen:kk+recs.length<=ops.length) (hnb:s0.nb=nb0+8*ops.length) (htr:pm (km ops []) (trf.filter λx=>!(x.rd.isEmpty&&x.ws.isEmpty))=true)
  (g5:∀j r,recs[j]?=some r->(⟨kk+j,r.rd,keys r.wr⟩:TE)∈trf\/(r.rd=[]/\r.wr=[]))
  (g6:∀(j:Nat) (o:Oper) (r:Rec),ops[kk+j]?=some o->recs[j]?=some r->r.dst=o.dst/\t6 P n nb0 ops (kk+j) o r ((recs.take j).foldl St.put s0)):
  DrawFacts P n nb0 ops (List.replicate kk oQ++(recs++List.replicate (ops.length - (kk+recs.length)) oQ)) s0 (λj=>kk<=j/\j<kk+recs.length):=by
 have hmust:=pj ops ops [] (by simp) (λj i hb=>by simp [getN] at hb)
 have hget:∀(j:Nat) (r:Rec),(List.replicate kk oQ++(recs++List.replicate (ops.length - (kk+recs.length)) oQ))[j]?=some r->(r=oQ/\¬(kk<=j/\j<kk+recs.length))\/(kk<=j/\j<kk+recs.length/\recs[j - kk]?=some r):=by
  intro j r hj
  rcases aG j kk with h | h
  ·rw [nh (by simpa using h)] at hj
   exact .inl ⟨(List.mem_replicate.1 (gQ hj)).2,by omega⟩
  ·rw [pO (by simpa using h)] at hj
   simp only [AB] at hj
   rcases aG (j - kk) recs.length with h2 | h2
   ·rw [nh h2] at hj
    exact .inr ⟨h,by omega,hj⟩
   ·rw [pO h2] at hj
    exact .inl ⟨(List.mem_replicate.1 (gQ hj)).2,by omega⟩
 refine ⟨by simp;omega,hnb,λj o r ho hr=>?_,λj o e ho he hb=>?_,λi j x y hlt hx hy=>?_,λi j x y hlt hx hy=>?_⟩
 ·rcases hget j r hr with ⟨rfl,hno⟩ | ⟨h1,h2,h3⟩
  ·exact ⟨λt ht=>(by cases ht),λhl=>absurd hl hno⟩
  ·obtain ⟨q1,q2⟩:=g6 (j - kk) o r (by rw [show kk+(j - kk)=j by omega];exact ho) h3
   rw [show kk+(j - kk)=j by omega] at q2
   refine ⟨λt ht=>q1▸ht,λ_=>q2.eqv ?_⟩
   rw [oI,nA]
   have e1:=pW recs (0+kk) (j - kk) s0
   have e2:appD (0+kk) recs (λm=>decide (m<0+kk+(j - kk))) s0=appD (0+kk) recs (λm=>decide (m<j)) s0:=by rw [show 0+kk+(j - kk)=j by omega]
   rw [e2] at e1
   rw [na]
   exact e1
 ·have:=jA ops 0 hb1 j o e ho he hb;omega
 ·have:=mF (masks:=km ops []) ops [] hb2 i j x y (by simpa using hlt) (by simpa using hx) hy
  simp only [bj,cY] at this
  exact this.imp (hmust j i) λh=>h
 ·rcases hget i x hx with ⟨rfl,_⟩ | ⟨h1,h2,h3⟩
  ·exact .inr (by simp [oQ,keys])
  ·rcases hget j y hy with ⟨rfl,_⟩ | ⟨h4,h5,h6⟩
   ·exact .inr (by simp [oQ,keys])
   ·have hx':=g5 (i - kk) x h3
    have hy':=g5 (j - kk) y h6
    rw [show kk+(i - kk)=i by omega] at hx'
    rw [show kk+(j - kk)=j by omega] at hy'
    rcases hx' with hxm | ⟨hx1,hx2⟩
    ·rcases hy' with hym | ⟨hy1,hy2⟩
     ·by_cases he1:(x.rd=[]/\x.wr=[])
      ·exact .inr (by simp [he1.1,he1.2,keys])
      ·by_cases he2:(y.rd=[]/\y.wr=[])
       ·exact .inr (by simp [he2.1,he2.2,keys])
       ·have m1:(⟨i,x.rd,keys x.wr⟩:TE)∈trf.filter λx=>!(x.rd.isEmpty&&x.ws.isEmpty):=by
         refine mY.2 ⟨hxm,?_⟩
         simp only [keys,kl,Bc,AE]
         rcases FV (x.rd=[]) with h | h
         ·exact .inr (by simpa using λhw=>he1 ⟨h,hw⟩)
         ·exact .inl h
        have m2:(⟨j,y.rd,keys y.wr⟩:TE)∈trf.filter λx=>!(x.rd.isEmpty&&x.ws.isEmpty):=by
         refine mY.2 ⟨hym,?_⟩
         simp only [keys,kl,Bc,AE]
         rcases FV (y.rd=[]) with h | h
         ·exact .inr (by simpa using λhw=>he2 ⟨h,hw⟩)
         ·exact .inl h
        have:=BG (pZ htr _ m1 _ m2 hlt) hlt
        exact this.imp (hmust j i) λh=>h
     ·exact .inr (by simp [hy1,hy2,keys])
    ·exact .inr (by simp [hx1,hx2,keys])
theorem Inv.grow {n:Nat} {ι0 ι:Inj} {w0:Base} {s:St} {a:Act} {w:World} (h:Inv n ι0 w0 ι s a w) (m:Nat):Inv n ι0 w0 ι { s with nb:=s.nb+m } a w:=
 ⟨h.size,h.defers,h.tmps,⟨h.mem.inj,λb r hb=>by have:=h.mem.low b r hb;simp only;omega,h.mem.dom,h.mem.blk⟩,h.ext,h.new,h.fr,h.low,h.fz,h.gl⟩
theorem CC {ops:List Oper} (h:Q7 ops=true):Region.noSelect ops.toArray=true:=by
 unfold Q7 at h
 unfold Region.noSelect
 rw [List.all_toArray,dF]
 rw [dF] at h
 intro o ho
 have:=h o ho
 cases hop:o.op<;>simp_all
theorem LG {α:Type} {E:List Ent} (hE:∀x∈E,gN P x) {n:Nat} {ops:List Oper} {lim:Nat} {s:St} {k:Ex->St->Option α} {z:α} (h:KJ P E n ops lim s k=some z) (id:Nat):
  SemC P n (.region id ops.toArray true) s λex s'=>k ex s'=some z:=by
 intro ι0 w0 ι a w hI
 unfold KJ at h
 simp only at h
 generalize hkk:J5 (getN (km ops []) lim) lim lim 0=kk at h
 split at h
 case h_2=>cases h
 rename_i hok
 simp only [az,Fa,RN] at hok
 obtain ⟨⟨hb1,hb2,hb3⟩,hmix,hlim,hkl,hloose,hup,hdown⟩:=hok
 have hlim:lim<ops.length:=aI hlim
 have hkl:=aI hkl
 have hmust:=pj ops ops [] (by simp) (λj i hb=>by simp [getN] at hb)
 have hI1:Inv n ι0 w0 ι { s with nb:=s.nb+8*ops.length } a { w with drawn:=w.drawn+1 }:=(hI.drawn (w.drawn+1)).grow _
 let Q:Exit->Act->World->Prop:=λe a w=>e=.normal/\∃s' ι',Inv n ι0 w0 ι' s' a w/\k .normal s'=some z
 refine sX (λe a w (hq:Q e a w)=>?_) (wp_region_any (Q:=Q) hmix ?_)
 ·obtain ⟨rfl,s',ι',h1,h2⟩:=hq
  exact ⟨.normal,s',ι',rfl,h1,h2⟩
 have hD0:∀i,Dn (Array.replicate ops.length false) i=false:=by
  intro i
  unfold Dn
  simp only [qc,TY]
  split<;>rfl
 have hsz:ops.toArray.size=(ops.length - kk)+kk:=by simp;omega
 rw [hsz,show Array.replicate ((ops.length - kk)+kk) false=Array.replicate ops.length false by rw [Nat.sub_add_cancel (by omega)]]
 refine Gk (CC hb3) (λc a w hq=>by cases hq.1) kk 0 _ _ a hloose (by simp) (by omega) (λj hj=>by omega) (λj _=>hD0 j) hI1 (by rw [gy];exact h) λs0 a0 listed0 h hI0 hnb0 hs0 hd0 hu0=>?_
 simp only [cY] at hd0 hu0
 simp only at hnb0
 rcases zW hE ((ops.take lim).drop kk) kk s0 [] (by simp;omega) h with ⟨recs,sf,trf,g1,g2,g3,_,g5,g6⟩ | ⟨p,po,recs,sf,sp,trf,v,wr,rp,_,_,_,_,_,_,g2,_⟩
 case inr=>cases g2
 split at g2
 case h_2=>cases g2
 rename_i htr
 have hl1:recs.length=lim - kk:=by rw [g1];simp;omega
 have hmid:∀j,j<lim - kk->((ops.take lim).drop kk)[j]?=ops[kk+j]?:=λj hj=>by
  rw [mn,HV,ae (by omega)]
 have F:=A3 (P:=P) (n:=n) (nb0:=s.nb) (kk:=kk) (ops:=ops) (recs:=recs) (s0:=s0) (trf:=trf) hb1 hb2 (by omega) hnb0 htr g5 (λj o r ho hr=>by
  have hj:j<recs.length:=by
   rcases aG j recs.length with h' | h'
   ·exact h'
   ·rw [gU h'] at hr;cases hr
  exact g6 j o r (by rw [hmid j (by omega)];exact ho) hr)
 split at g2
 case h_2=>cases g2
 rename_i o hoa
 split at g2
 case h_2=>cases g2
 rename_i hga
 have hst0:appD 0 (List.replicate kk oQ++(recs++List.replicate (ops.length - (kk+recs.length)) oQ)) (Dn listed0) s0=s0:=by
  rw [oI,nA,na]
  exact xd recs _ _ _ λj _=>hu0 _ (by omega)
 have hcnt:∀m,((List.range m).filter λi=>!Dn listed0 i).length<=m - kk:=by
  intro m
  induction m with
  | zero=>simp
  | succ m ih=>
   rw [List.range_succ,I0,aM]
   rcases aG m kk with hm | hm
   ·have:([m].filter λi=>!Dn listed0 i)=[]:=by simp [hd0 m hm]
    rw [this,bj];omega
   ·have:([m].filter λi=>!Dn listed0 i).length<=1:=by simpa using List.length_filter_le (λi=>!Dn listed0 i) [m]
    omega
 refine MM F (lim:=lim) (kk:=kk) hlim (λj h1 h2=>⟨⟨h1,by omega⟩,hmust lim j (oZ hup j h1 (by omega))⟩) (λj h1 h2=>hmust j lim (oZ hdown j h1 (by omega))) (λfuel listed ι1 a1 w1 hs1 hall hn1 hdn0 hdn1 hI2 hc1=>?_) _ listed0 ι a0 _ hs0 hd0 (λj o' e ho hDj he hb=>?_) (hu0 lim hkl) (by rw [hst0];exact hI0) (λi hi hni b hb1' hb2'=>hI.fresh b (by omega)) (hcnt _)
 ·
  have hD1:appD 0 (List.replicate kk oQ++(recs++List.replicate (ops.length - (kk+recs.length)) oQ)) (Dn listed) s0=recs.foldl St.put s0:=by
   rw [oI,nA,na]
   exact AK recs _ _ _ λj hj=>hall _ (by omega)
  rw [hD1] at hI2
  have hI3:=hI2.eqv g3.symm
  have hoa':ops.toArray[lim]?=some o:=by simpa using hoa
  unfold wpOp
  rw [hoa']
  simp only
  rw [ae (by simp [Region.wanted,hga])]
  refine .inl (ze hE hI3 (λb hb=>hI3.fresh b hb) (aV _) g2 (λs2 ι2 a2 w2 h2 hI4=>?_) (λv s' ι' x a' w' hk=>by cases hk))
  rcases zW hE (ops.drop (lim+1)) (lim+1) { s2 with nb:=s2.nb+8*ops.length } [] (by simp;omega) h2 with ⟨recs2,sf2,trf2,q1,q2,q3,_,q5,q6⟩ | ⟨p,po,recs2,sf2,sp2,trf2,v,wr,rp,_,_,_,_,_,_,q2,_⟩
  case inr=>cases q2
  split at q2
  case h_2=>cases q2
  rename_i htr2
  have hl2:recs2.length=ops.length - (lim+1):=by rw [q1];simp
  have F2:=A3 (P:=P) (n:=n) (nb0:=s2.nb) (kk:=lim+1) (ops:=ops) (recs:=recs2) (s0:={ s2 with nb:=s2.nb+8*ops.length }) (trf:=trf2) hb1 hb2 (by omega) rfl htr2 q5 (λj o r ho hr=>q6 j o r (by rw [mn];exact ho) hr)
  have hlt:lim<listed.size:=by omega
  have hset:Dn (listed.setIfInBounds lim true)=λj=>if j=lim then true else Dn listed j:=by
   funext j;exact yg hlt j
  have hund:∀j,lim<j->j<ops.length->Dn (listed.setIfInBounds lim true) j=false:=by
   intro j h1 h2
   rw [hset]
   simp only [show ¬j=lim by omega,aE]
   cases hDj:Dn listed j with
   | false=>rfl
   | true=>
    have:=hmust j lim (oZ hdown j h1 (by omega)) _ hdn0 hDj
    rw [hn1] at this;cases this
  have hfin:∀ι3 a3 w3,Inv n ι0 w0 ι3 ((List.replicate (lim+1) oQ++(recs2++List.replicate (ops.length - (lim+1+recs2.length)) oQ)).foldl St.put { s2 with nb:=s2.nb+8*ops.length }) a3 w3->Q .normal a3 w3:=by
   intro ι3 a3 w3 hI5
   rw [FM,FM,qF,qF] at hI5
   exact ⟨rfl,sf2,ι3,hI5.eqv q3.symm,q2⟩
  have hall2:∀j,j<lim+1->Dn (listed.setIfInBounds lim true) j=true:=by
   intro j hj
   rw [hset]
   by_cases h:j=lim
   ·simp [h]
   ·simp only [h,aE];exact hall j (by omega)
  have hI6:Inv n ι0 w0 ι2 (appD 0 (List.replicate (lim+1) oQ++(recs2++List.replicate (ops.length - (lim+1+recs2.length)) oQ)) (Dn (listed.setIfInBounds lim true)) { s2 with nb:=s2.nb+8*ops.length }) a2 w2:=by
   rw [oI,nA,na,xd recs2 _ _ _ λj hj=>hund _ (by omega) (by omega)]
   exact hI4.grow _
  have hc2:((List.range ops.length).filter λj=>!Dn (listed.setIfInBounds lim true) j).length<=fuel:=by
   have:((List.range ops.length).filter λj=>!Dn (listed.setIfInBounds lim true) j).length<((List.range ops.length).filter λj=>!Dn listed j).length:=by
    rw [hset]
    have hsub:((List.range ops.length).filter λj=>!(if j=lim then true else Dn listed j))=((List.range ops.length).filter λj=>!Dn listed j).filter λj=>decide (j≠lim):=by
     rw [F9]
     congr 1
     funext j
     by_cases hji:j=lim<;>simp [hji]
    rw [hsub]
    refine zT.2 ⟨lim,by simp [hlim,hn1],by simp⟩
   omega
  exact By F2 (ι0:=ι0) (w0:=w0) (kk:=lim+1) (λj h1 h2=>⟨h1,by omega⟩) hfin fuel _ ι2 a2 w2 (by simpa using hs1) hall2 hdn1 hI6 (λi hi hni b hb1' hb2'=>hI4.fresh b (by omega)) hc2
 ·have h1:=jA ops 0 hb1 j o' e ho he hb
  refine hd0 _ ?_
  rcases aG j kk with h | h
  ·omega
  ·rw [hu0 j h] at hDj;cases hDj
theorem Nb {α:Type} {E:List Ent} (hE:∀x∈E,gN P x) {n:Nat} {ops:List Oper} {s:St} {k:Ex->St->Option α} {z:α} (h:PL P E n ops s k=some z) (id:Nat):
  SemC P n (.region id ops.toArray true) s λex s'=>k ex s'=some z:=by
 unfold PL at h
 split at h
 ·exact Hv hE h id
 ·exact LG hE h id
end Go.Abs
