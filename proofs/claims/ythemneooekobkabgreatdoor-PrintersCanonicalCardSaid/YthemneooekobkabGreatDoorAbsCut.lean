
/- A region that draws its order, with an append in its middle.
   Conditions: none; generic over the program. -/
import Derived.Test.YthemneooekobkabGreatDoorAbsV
set_option linter.unusedSimpArgs false
set_option linter.unusedVariables false
namespace Go.Abs
variable {P:Program}
theorem pQ {f:Nat->Bool}:∀{r i:Nat},ud f r i=true->∀j,i<=j->j<i+r->f j=true
 | 0,_,_,j,_,_=>by omega
 | r+1,i,h,j,c,b=>by
  simp only [ud,aA] at h;by_cases a:j=i
  ·rw [a];exact h.1
  ·exact pQ h.2 j (by omega) (by omega)
theorem Eg {n:Nat} {ops:Array Oper} {r i:Nat} {a:Array Bool} (h:uL n ops (r+1) i a=true):
  ∃o x,ops[i]?=some o/\o.op=.move x/\o.guard=none/\vn n o.dst=true/\Region.free .any ops a i=true/\(Region.ready .any ops a).contains i=true/\uL n ops r (i+1) (a.setIfInBounds i true)=true:=by
 simp only [uL,aA] at h;obtain ⟨b,d,g,k⟩:=h;split at b
 ·rename_i o j;simp only [aA] at b;obtain ⟨c,f,e⟩:=b;split at c
  ·rename_i x hx;exact ⟨o,x,j,hx,by simpa using f,e,d,g,k⟩
  ·cases c
 ·cases b
theorem Gl {α:Type} {n:Nat} {ops:List Oper} (f:Region.noSelect ops.toArray=true) {ι0:Inj} {w0:Base} {ι:Inj} {w:World} {Q:Exit->Act->World->Prop} (C:∀c a w,¬Q (.panic c) a w) {fuel:Nat} {k:St->Option α} {z:α}:
  ∀(r i:Nat) (b:Array Bool) (s:St) (a:Act),uL n ops.toArray r i b=true->b.size=ops.length->i+r<=ops.length->(∀j,j<i->Dn b j=true)->(∀j,i<=j->Dn b j=false)->Inv n ι0 w0 ι s a w->
   runM ((ops.drop i).take r) s k=some z->
   (∀(s':St) (m:Act) (d:Array Bool),k s'=some z->Inv n ι0 w0 ι s' m w->s'.nb=s.nb->d.size=ops.length->(∀j,j<i+r->Dn d j=true)->(∀j,i+r<=j->Dn d j=false)->wpAny P .any ops.toArray Q fuel d m w)->
   wpAny P .any ops.toArray Q (fuel+r) b a w
 | 0,i,b,s,a,_,hs,_,y,p,e,h,B=>by
  simp only [lX,runM] at h;exact B s a b h e rfl hs (by simpa using y) (by simpa using p)
 | r+1,i,b,s,a,J,hs,I,y,p,e,h,B=>by
  obtain ⟨o,x,D,hx,K,N,O,S,q⟩:=Eg J;have ho':ops[i]?=some o:=by simpa using D
  have g:(ops.drop i).take (r+1)=o::(ops.drop (i+1)).take r:=by
   have hi:i<ops.length:=by omega
   rw [be hi] at ho';simp only [au] at ho';rw [sJ hi,n6,ho']
  rw [g] at h;simp only [runM,hx] at h;obtain ⟨u,H,h⟩:=av h;have R:=bv e.tmps H;have hy:Yields P ops.toArray o (a.eval x) a:=.inl ⟨by simp [Region.wanted,K],λw=>by simp [execOp,hx]⟩;have hI':Inv n ι0 w0 ι (s.app o.dst (some u) [] s.nb) (a.put o.dst (a.eval x)) w:=
   ⟨by rw [nG];exact e.size,by rw [jG];exact e.defers,e.tmps.app e.size N (λv t=>by cases t;exact R),e.mem,e.ext,e.new,e.fr,e.low,e.fz,e.gl⟩
  refine wpAny_take (fuel:=fuel+r) D f O S (λc a w h=>absurd h (C c _ w)) hy ?_;have l:i<b.size:=by omega
  refine Gl f C r (i+1) _ _ _ q (by simpa using hs) (by omega) (λj A=>?_) (λj A=>?_) hI' h λs' m d G E F T L M=>B s' m d G E F T (λj A=>L j (by omega)) (λj A=>M j (by omega))
  ·rw [zu l];split
   ·rfl
   ·exact y j (by omega)
  ·rw [zu l,ab (by omega)];exact p j (by omega)
def pY:Rec:=⟨none,none,[],[]⟩
theorem xy (s:St):s.put pY=s:=rfl
theorem pH:∀(m i:Nat) (l:List Rec) (D:Nat->Bool) (s:St),appD i (List.replicate m pY++l) D s=appD (i+m) l D s
 | 0,i,l,D,s=>by simp
 | m+1,i,l,D,s=>by
  rw [sY,eU];simp only [appD,xy,ite_self];rw [pH m (i+1) l D s,show i+1+m=i+(m+1) by omega]
theorem oe:∀(m i:Nat) (D:Nat->Bool) (s:St),appD i (List.replicate m pY) D s=s
 | 0,i,D,s=>rfl
 | m+1,i,D,s=>by
  rw [sY];simp only [appD,xy,ite_self];exact oe m (i+1) D s
theorem nZ:∀(l m:List Rec) (i:Nat) (D:Nat->Bool) (s:St),appD i (l++m) D s=appD (i+l.length) m D (appD i l D s)
 | [],m,i,D,s=>by simp [appD]
 | r::l,m,i,D,s=>by
  simp only [eU,appD,az];rw [nZ l m (i+1)];rw [show i+1+l.length=i+(l.length+1) by omega]
theorem yN:∀(l:List Rec) (i:Nat) (D:Nat->Bool) (s:St),(∀j,j<l.length->D (i+j)=false)->appD i l D s=s
 | [],i,D,s,_=>rfl
 | r::l,i,D,s,h=>by
  have a:=h 0 (by simp);simp only [cS] at a;simp only [appD,a,br,aB];exact yN l (i+1) D s λj b=>by have:=h (j+1) (by simpa using b);rwa [show i+(j+1)=i+1+j by omega] at this
theorem rc:∀(m:Nat) (s:St),(List.replicate m pY).foldl St.put s=s
 | 0,_=>rfl
 | m+1,s=>by rw [sY,vG,xy];exact rc m s
theorem Cb {n nb0 kk:Nat} {ops:List Oper} {recs:List Rec} {s0:St} {trf:List TE} (p:rA 0 ops=true) (B:um ops.toArray (k9 ops []) 0 [] ops=true)
  (K:kk+recs.length<=ops.length) (v:s0.nb=nb0+8*ops.length) (s:qh (k9 ops []) (trf.filter λx=>!(x.rd.isEmpty&&x.ws.isEmpty))=true)
  (J:∀j r,recs[j]?=some r->(⟨kk+j,r.rd,keys r.wr⟩:TE)∈trf\/(r.rd=[]/\r.wr=[]))
  (T:∀(j:Nat) (o:Oper) (r:Rec),ops[kk+j]?=some o->recs[j]?=some r->r.dst=o.dst/\vb P n nb0 ops (kk+j) o r ((recs.take j).foldl St.put s0)):
  DrawFacts P n nb0 ops (List.replicate kk pY++(recs++List.replicate (ops.length - (kk+recs.length)) pY)) s0 (λj=>kk<=j/\j<kk+recs.length):=by
 have a:=pK ops ops [] (by simp) (λj i u=>by simp [getN] at u);have b:∀(j:Nat) (r:Rec),(List.replicate kk pY++(recs++List.replicate (ops.length - (kk+recs.length)) pY))[j]?=some r->(r=pY/\¬(kk<=j/\j<kk+recs.length))\/(kk<=j/\j<kk+recs.length/\recs[j - kk]?=some r):=by
  intro j r d;rcases aG j kk with h | h
  ·rw [oc (by simpa using h)] at d;exact .inl ⟨(List.mem_replicate.1 (gB d)).2,by omega⟩
  ·rw [qA (by simpa using h)] at d;simp only [List.length_replicate] at d;rcases aG (j - kk) recs.length with k | k
   ·rw [oc k] at d;exact .inr ⟨h,by omega,d⟩
   ·rw [qA k] at d;exact .inl ⟨(List.mem_replicate.1 (gB d)).2,by omega⟩
 refine ⟨by simp;omega,v,λj o r D U=>?_,λj o e D N u=>?_,λi j x y c hx hy=>?_,λi j x y c hx hy=>?_⟩
 ·rcases b j r U with ⟨rfl,z⟩ | ⟨S,k,q⟩
  ·exact ⟨λt l=>(by cases l),λQ=>absurd Q z⟩
  ·obtain ⟨O,L⟩:=T (j - kk) o r (by rw [show kk+(j - kk)=j by omega];exact D) q;rw [show kk+(j - kk)=j by omega] at L;refine ⟨λt l=>O▸l,λ_=>L.eqv ?_⟩;rw [pH,nZ];have I:=rz recs (0+kk) (j - kk) s0;have M:appD (0+kk) recs (λm=>decide (m<0+kk+(j - kk))) s0=appD (0+kk) recs (λm=>decide (m<j)) s0:=by rw [show 0+kk+(j - kk)=j by omega]
   rw [M] at I;rw [oe];exact I
 ·have:=jW ops 0 p j o e D N u;omega
 ·have:=nk (masks:=k9 ops []) ops [] B i j x y (by simpa using c) (by simpa using hx) hy;simp only [aX,de] at this;exact this.imp (a j i) λh=>h
 ·rcases b i x hx with ⟨rfl,_⟩ | ⟨S,k,q⟩
  ·exact .inr (by simp [pY,keys])
  ·rcases b j y hy with ⟨rfl,_⟩ | ⟨W,V,R⟩
   ·exact .inr (by simp [pY,keys])
   ·have hx':=J (i - kk) x q;have hy':=J (j - kk) y R;rw [show kk+(i - kk)=i by omega] at hx';rw [show kk+(j - kk)=j by omega] at hy';rcases hx' with C | ⟨w,G⟩
    ·rcases hy' with A | ⟨E,H⟩
     ·by_cases g:(x.rd=[]/\x.wr=[])
      ·exact .inr (by simp [g.1,g.2,keys])
      ·by_cases f:(y.rd=[]/\y.wr=[])
       ·exact .inr (by simp [f.1,f.2,keys])
       ·have m1:(⟨i,x.rd,keys x.wr⟩:TE)∈trf.filter λx=>!(x.rd.isEmpty&&x.ws.isEmpty):=by
         refine nQ.2 ⟨C,?_⟩;simp only [keys,ly,EA,Is];rcases If (x.rd=[]) with h | h
         ·exact .inr (by simpa using λF=>g ⟨h,F⟩)
         ·exact .inl h
        have m2:(⟨j,y.rd,keys y.wr⟩:TE)∈trf.filter λx=>!(x.rd.isEmpty&&x.ws.isEmpty):=by
         refine nQ.2 ⟨A,?_⟩;simp only [keys,ly,EA,Is];rcases If (y.rd=[]) with h | h
         ·exact .inr (by simpa using λF=>f ⟨h,F⟩)
         ·exact .inl h
        have:=Du (rG s _ m1 _ m2 c) c;exact this.imp (a j i) λh=>h
     ·exact .inr (by simp [E,H,keys])
    ·exact .inr (by simp [w,G,keys])
theorem Inv.grow {n:Nat} {ι0 ι:Inj} {w0:Base} {s:St} {a:Act} {w:World} (h:Inv n ι0 w0 ι s a w) (m:Nat):Inv n ι0 w0 ι { s with nb:=s.nb+m } a w:=
 ⟨h.size,h.defers,h.tmps,⟨h.mem.inj,λb r C=>by have:=h.mem.low b r C;simp only;omega,h.mem.dom,h.mem.blk⟩,h.ext,h.new,h.fr,h.low,h.fz,h.gl⟩
theorem DX {ops:List Oper} (h:Ru ops=true):Region.noSelect ops.toArray=true:=by
 unfold Ru at h;unfold Region.noSelect;rw [List.all_toArray,cN];rw [cN] at h;intro o a;have:=h o a;cases b:o.op<;>simp_all
theorem JH {α:Type} {E:List Ent} (hE:∀x∈E,fH P x) {n:Nat} {ops:List Oper} {lim:Nat} {s:St} {k:Ex->St->Option α} {z:α} (h:JM P E n ops lim s k=some z) (id:Nat):
  SemC P n (.region id ops.toArray true) s λex s'=>k ex s'=some z:=by
 intro ι0 w0 ι a w hI;unfold JM at h;simp only at h;generalize hkk:N2 (getN (k9 ops []) lim) lim lim 0=kk at h;split at h
 case h_2=>cases h
 rename_i hok;simp only [aA,GO,UN] at hok;obtain ⟨⟨M,hb2,hb3⟩,R,l,K,D,hup,u⟩:=hok;have l:lim<ops.length:=aI l;have K:=aI K;have g:=pK ops ops [] (by simp) (λj i hb=>by simp [getN] at hb);have hI1:Inv n ι0 w0 ι { s with nb:=s.nb+8*ops.length } a { w with drawn:=w.drawn+1 }:=(hI.drawn (w.drawn+1)).grow _;let Q:Exit->Act->World->Prop:=λe a w=>e=.normal/\∃s' G,Inv n ι0 w0 G s' a w/\k .normal s'=some z;refine tO (λe a w (hq:Q e a w)=>?_) (wp_region_any (Q:=Q) R ?_)
 ·obtain ⟨rfl,s',G,q,O⟩:=hq;exact ⟨.normal,s',G,rfl,q,O⟩
 have hD0:∀i,Dn (Array.replicate ops.length false) i=false:=by
  intro i;unfold Dn;simp only [ri,We];split<;>rfl
 have hsz:ops.toArray.size=(ops.length - kk)+kk:=by simp;omega
 rw [hsz,show Array.replicate ((ops.length - kk)+kk) false=Array.replicate ops.length false by rw [Nat.sub_add_cancel (by omega)]];refine Gl (DX hb3) (λc a w hq=>by cases hq.1) kk 0 _ _ a D (by simp) (by omega) (λj W=>by omega) (λj _=>hD0 j) hI1 (by rw [cf];exact h) λs0 a0 f h hI0 I hs0 H y=>?_;simp only [de] at H y;simp only at I;rcases BM hE ((ops.take lim).drop kk) kk s0 [] (by simp;omega) h with ⟨recs,sf,trf,g1,A,g3,_,g5,g6⟩ | ⟨p,po,recs,sf,sp,trf,v,wr,rp,_,_,_,_,_,_,A,_⟩
 case inr=>cases A
 split at A
 case h_2=>cases A
 rename_i htr;have hl1:recs.length=lim - kk:=by rw [g1];simp;omega
 have T:∀j,j<lim - kk->((ops.take lim).drop kk)[j]?=ops[kk+j]?:=λj W=>by
  rw [mZ,NL,ae (by omega)]
 have F:=Cb (P:=P) (n:=n) (nb0:=s.nb) (kk:=kk) (ops:=ops) (recs:=recs) (s0:=s0) (trf:=trf) M hb2 (by omega) I htr g5 (λj o r U hr=>by
  have W:j<recs.length:=by
   rcases aG j recs.length with h' | h'
   ·exact h'
   ·rw [ii h'] at hr;cases hr
  exact g6 j o r (by rw [T j (by omega)];exact U) hr)
 split at A
 case h_2=>cases A
 rename_i o hoa;split at A
 case h_2=>cases A
 rename_i hga;have V:appD 0 (List.replicate kk pY++(recs++List.replicate (ops.length - (kk+recs.length)) pY)) (Dn f) s0=s0:=by
  rw [pH,nZ,oe];exact yN recs _ _ _ λj _=>y _ (by omega)
 have hcnt:∀m,((List.range m).filter λi=>!Dn f i).length<=m - kk:=by
  intro m
  induction m with
  | zero=>simp
  | succ m ih=>
   rw [List.range_succ,Mc,aU];rcases aG m kk with hm | hm
   ·have:([m].filter λi=>!Dn f i)=[]:=by simp [H m hm]
    rw [this,aX];omega
   ·have:([m].filter λi=>!Dn f i).length<=1:=by simpa using List.length_filter_le (λi=>!Dn f i) [m]
    omega
 refine PP F (lim:=lim) (kk:=kk) l (λj q O=>⟨⟨q,by omega⟩,g lim j (pQ hup j q (by omega))⟩) (λj q O=>g j lim (pQ u j q (by omega))) (λfuel d ι1 a1 w1 hs1 J hn1 hdn0 hdn1 Y hc1=>?_) _ f ι a0 _ hs0 H (λj o' e U B he hb=>?_) (y lim K) (by rw [V];exact hI0) (λi hi hni b hb1' hb2'=>hI.fresh b (by omega)) (hcnt _)
 ·
  have hD1:appD 0 (List.replicate kk pY++(recs++List.replicate (ops.length - (kk+recs.length)) pY)) (Dn d) s0=recs.foldl St.put s0:=by
   rw [pH,nZ,oe];exact BO recs _ _ _ λj W=>J _ (by omega)
  rw [hD1] at Y;have hI3:=Y.eqv g3.symm;have hoa':ops.toArray[lim]?=some o:=by simpa using hoa
  unfold wpOp;rw [hoa'];simp only;rw [ae (by simp [Region.wanted,hga])];refine .inl (Bd hE hI3 (λb hb=>hI3.fresh b hb) (aW _) A (λC ι2 a2 w2 O hI4=>?_) (λv s' G x a' w' hk=>by cases hk));rcases BM hE (ops.drop (lim+1)) (lim+1) { C with nb:=C.nb+8*ops.length } [] (by simp;omega) O with ⟨recs2,sf2,trf2,q1,q2,q3,_,q5,q6⟩ | ⟨p,po,recs2,sf2,sp2,trf2,v,wr,rp,_,_,_,_,_,_,q2,_⟩
  case inr=>cases q2
  split at q2
  case h_2=>cases q2
  rename_i Z;have hl2:recs2.length=ops.length - (lim+1):=by rw [q1];simp
  have F2:=Cb (P:=P) (n:=n) (nb0:=C.nb) (kk:=lim+1) (ops:=ops) (recs:=recs2) (s0:={ C with nb:=C.nb+8*ops.length }) (trf:=trf2) M hb2 (by omega) rfl Z q5 (λj o r U hr=>q6 j o r (by rw [mZ];exact U) hr);have hlt:lim<d.size:=by omega
  have t:Dn (d.setIfInBounds lim true)=λj=>if j=lim then true else Dn d j:=by
   funext j;exact zu hlt j
  have S:∀j,lim<j->j<ops.length->Dn (d.setIfInBounds lim true) j=false:=by
   intro j q O;rw [t];simp only [show ¬j=lim by omega,aB];cases B:Dn d j with
   | false=>rfl
   | true=>
    have:=g j lim (pQ u j q (by omega)) _ hdn0 B;rw [hn1] at this;cases this
  have hfin:∀L a3 w3,Inv n ι0 w0 L ((List.replicate (lim+1) pY++(recs2++List.replicate (ops.length - (lim+1+recs2.length)) pY)).foldl St.put { C with nb:=C.nb+8*ops.length }) a3 w3->Q .normal a3 w3:=by
   intro L a3 w3 X;rw [GN,GN,rc,rc] at X;exact ⟨rfl,sf2,L,X.eqv q3.symm,q2⟩
  have N:∀j,j<lim+1->Dn (d.setIfInBounds lim true) j=true:=by
   intro j W;rw [t];by_cases h:j=lim
   ·simp [h]
   ·simp only [h,aB];exact J j (by omega)
  have hI6:Inv n ι0 w0 ι2 (appD 0 (List.replicate (lim+1) pY++(recs2++List.replicate (ops.length - (lim+1+recs2.length)) pY)) (Dn (d.setIfInBounds lim true)) { C with nb:=C.nb+8*ops.length }) a2 w2:=by
   rw [pH,nZ,oe,yN recs2 _ _ _ λj W=>S _ (by omega) (by omega)];exact hI4.grow _
  have hc2:((List.range ops.length).filter λj=>!Dn (d.setIfInBounds lim true) j).length<=fuel:=by
   have:((List.range ops.length).filter λj=>!Dn (d.setIfInBounds lim true) j).length<((List.range ops.length).filter λj=>!Dn d j).length:=by
    rw [t];have hsub:((List.range ops.length).filter λj=>!(if j=lim then true else Dn d j))=((List.range ops.length).filter λj=>!Dn d j).filter λj=>decide (j≠lim):=by
     rw [HM];congr 1;funext j;by_cases hji:j=lim<;>simp [hji]
    rw [hsub];refine An.2 ⟨lim,by simp [l,hn1],by simp⟩
   omega
  exact Da F2 (ι0:=ι0) (w0:=w0) (kk:=lim+1) (λj q O=>⟨q,by omega⟩) hfin fuel _ ι2 a2 w2 (by simpa using hs1) N hdn1 hI6 (λi hi hni b hb1' hb2'=>hI4.fresh b (by omega)) hc2
 ·have q:=jW ops 0 M j o' e U he hb;refine H _ ?_;rcases aG j kk with h | h
  ·omega
  ·rw [y j h] at B;cases B
theorem Ql {α:Type} {E:List Ent} (a:∀x∈E,fH P x) {n:Nat} {ops:List Oper} {s:St} {k:Ex->St->Option α} {z:α} (h:RR P E n ops s k=some z) (id:Nat):
  SemC P n (.region id ops.toArray true) s λex s'=>k ex s'=some z:=by
 unfold RR at h;split at h
 ·exact Ix a h id
 ·exact JH a h id
end Go.Abs
