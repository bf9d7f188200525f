
/- A region that draws its order, with an append in its middle.
   Conditions: none; generic over the program. -/
import Derived.Test.YtfiponokimbeeaaGreatDoorAbsV
set_option linter.unusedSimpArgs false
set_option linter.unusedVariables false
namespace Go.Abs
variable {P:Program}
theorem pp {f:Nat->Bool}:∀{r i:Nat},tn f r i=true->∀j,i<=j->j<i+r->f j=true
 | 0,_,_,j,_,_=>by omega
 | r+1,i,h,j,c,b=>by
  simp only [tn,az] at h;by_cases a:j=i
  ·rw [a];exact h.1
  ·exact pp h.2 j (by omega) (by omega)
theorem BF {n:Nat} {ops:Array Oper} {r i:Nat} {a:Array Bool} (h:tM n ops (r+1) i a=true):
  ∃o x,ops[i]?=some o/\o.op=.move x/\o.guard=none/\uh n o.dst=true/\Region.free .any ops a i=true/\(Region.ready .any ops a).contains i=true/\tM n ops r (i+1) (a.setIfInBounds i true)=true:=by
 simp only [tM,az] at h;obtain ⟨b,g,j,e⟩:=h;split at b
 ·rename_i o d;simp only [az] at b;obtain ⟨c,k,f⟩:=b;split at c
  ·rename_i x hx;exact ⟨o,x,d,hx,by simpa using k,f,g,j,e⟩
  ·cases c
 ·cases b
theorem FB {α:Type} {n:Nat} {ops:List Oper} (f:Region.noSelect ops.toArray=true) {ι0:Inj} {w0:Base} {ι:Inj} {w:World} {Q:Exit->Act->World->Prop} (D:∀c a w,¬Q (.panic c) a w) {fuel:Nat} {k:St->Option α} {z:α}:
  ∀(r i:Nat) (b:Array Bool) (s:St) (a:Act),tM n ops.toArray r i b=true->b.size=ops.length->i+r<=ops.length->(∀j,j<i->Dn b j=true)->(∀j,i<=j->Dn b j=false)->Inv n ι0 w0 ι s a w->
   runM ((ops.drop i).take r) s k=some z->
   (∀(s':St) (m:Act) (d:Array Bool),k s'=some z->Inv n ι0 w0 ι s' m w->s'.nb=s.nb->d.size=ops.length->(∀j,j<i+r->Dn d j=true)->(∀j,i+r<=j->Dn d j=false)->wpAny P .any ops.toArray Q fuel d m w)->
   wpAny P .any ops.toArray Q (fuel+r) b a w
 | 0,i,b,s,a,_,hs,_,y,A,e,h,B=>by
  simp only [lw,runM] at h;exact B s a b h e rfl hs (by simpa using y) (by simpa using A)
 | r+1,i,b,s,a,L,hs,M,y,A,e,h,B=>by
  obtain ⟨o,x,C,hx,S,N,I,G,p⟩:=BF L;have ho':ops[i]?=some o:=by simpa using C
  have g:(ops.drop i).take (r+1)=o::(ops.drop (i+1)).take r:=by
   have hi:i<ops.length:=by omega
   rw [bn hi] at ho';simp only [ak] at ho';rw [pR hi,mz,ho']
  rw [g] at h;simp only [runM,hx] at h;obtain ⟨u,J,h⟩:=ar h;have O:=bg e.tmps J;have hy:Yields P ops.toArray o (a.eval x) a:=.inl ⟨by simp [Region.wanted,S],λw=>by simp [execOp,hx]⟩;have hI':Inv n ι0 w0 ι (s.app o.dst (some u) [] s.nb) (a.put o.dst (a.eval x)) w:=
   ⟨by rw [md];exact e.size,by rw [iE];exact e.defers,e.tmps.app e.size N (λv t=>by cases t;exact O),e.mem,e.ext,e.new,e.fr,e.low,e.fz,e.gl⟩
  refine wpAny_take (fuel:=fuel+r) C f I G (λc a w h=>absurd h (D c _ w)) hy ?_;have l:i<b.size:=by omega
  refine FB f D r (i+1) _ _ _ p (by simpa using hs) (by omega) (λj q=>?_) (λj q=>?_) hI' h λs' m d E H F K R T=>B s' m d E H F K (λj q=>R j (by omega)) (λj q=>T j (by omega))
  ·rw [yT l];split
   ·rfl
   ·exact y j (by omega)
  ·rw [yT l,ab (by omega)];exact A j (by omega)
def oY:Rec:=⟨none,none,[],[]⟩
theorem wK (s:St):s.put oY=s:=rfl
theorem ox:∀(m i:Nat) (l:List Rec) (D:Nat->Bool) (s:St),appD i (List.replicate m oY++l) D s=appD (i+m) l D s
 | 0,i,l,D,s=>by simp
 | m+1,i,l,D,s=>by
  rw [nA,ep];simp only [appD,wK,ite_self];rw [ox m (i+1) l D s,show i+1+m=i+(m+1) by omega]
theorem mW:∀(m i:Nat) (D:Nat->Bool) (s:St),appD i (List.replicate m oY) D s=s
 | 0,i,D,s=>rfl
 | m+1,i,D,s=>by
  rw [nA];simp only [appD,wK,ite_self];exact mW m (i+1) D s
theorem m8:∀(l m:List Rec) (i:Nat) (D:Nat->Bool) (s:St),appD i (l++m) D s=appD (i+l.length) m D (appD i l D s)
 | [],m,i,D,s=>by simp [appD]
 | r::l,m,i,D,s=>by
  simp only [ep,appD,aM];rw [m8 l m (i+1)];rw [show i+1+l.length=i+(l.length+1) by omega]
theorem wN:∀(l:List Rec) (i:Nat) (D:Nat->Bool) (s:St),(∀j,j<l.length->D (i+j)=false)->appD i l D s=s
 | [],i,D,s,_=>rfl
 | r::l,i,D,s,h=>by
  have a:=h 0 (by simp);simp only [cn] at a;simp only [appD,a,bA,aC];exact wN l (i+1) D s λj b=>by have:=h (j+1) (by simpa using b);rwa [show i+(j+1)=i+1+j by omega] at this
theorem qd:∀(m:Nat) (s:St),(List.replicate m oY).foldl St.put s=s
 | 0,_=>rfl
 | m+1,s=>by rw [nA,uq,wK];exact qd m s
theorem Bv {n nb0 kk:Nat} {ops:List Oper} {recs:List Rec} {s0:St} {trf:List TE} (H:qg 0 ops=true) (C:sZ ops.toArray (jw ops []) 0 [] ops=true)
  (J:kk+recs.length<=ops.length) (B:s0.nb=nb0+8*ops.length) (A:pu (jw ops []) (trf.filter λx=>!(x.rd.isEmpty&&x.ws.isEmpty))=true)
  (K:∀j r,recs[j]?=some r->(⟨kk+j,r.rd,keys r.wr⟩:TE)∈trf\/(r.rd=[]/\r.wr=[]))
  (S:∀(j:Nat) (o:Oper) (r:Rec),ops[kk+j]?=some o->recs[j]?=some r->r.dst=o.dst/\t7 P n nb0 ops (kk+j) o r ((recs.take j).foldl St.put s0)):
  DrawFacts P n nb0 ops (List.replicate kk oY++(recs++List.replicate (ops.length - (kk+recs.length)) oY)) s0 (λj=>kk<=j/\j<kk+recs.length):=by
 have a:=o9 ops ops [] (by simp) (λj i u=>by simp [getN] at u);have b:∀(j:Nat) (r:Rec),(List.replicate kk oY++(recs++List.replicate (ops.length - (kk+recs.length)) oY))[j]?=some r->(r=oY/\¬(kk<=j/\j<kk+recs.length))\/(kk<=j/\j<kk+recs.length/\recs[j - kk]?=some r):=by
  intro j r d;rcases aF j kk with h | h
  ·rw [mQ (by simpa using h)] at d;exact .inl ⟨(List.mem_replicate.1 (f7 d)).2,by omega⟩
  ·rw [pN (by simpa using h)] at d;simp only [List.length_replicate] at d;rcases aF (j - kk) recs.length with k | k
   ·rw [mQ k] at d;exact .inr ⟨h,by omega,d⟩
   ·rw [pN k] at d;exact .inl ⟨(List.mem_replicate.1 (f7 d)).2,by omega⟩
 refine ⟨by simp;omega,B,λj o r w M=>?_,λj o e w U u=>?_,λi j x y c hx hy=>?_,λi j x y c hx hy=>?_⟩
 ·rcases b j r M with ⟨rfl,F⟩ | ⟨Q,k,l⟩
  ·exact ⟨λt s=>(by cases s),λT=>absurd T F⟩
  ·obtain ⟨R,L⟩:=S (j - kk) o r (by rw [show kk+(j - kk)=j by omega];exact w) l;rw [show kk+(j - kk)=j by omega] at L;refine ⟨λt s=>R▸s,λ_=>L.eqv ?_⟩;rw [ox,m8];have I:=qy recs (0+kk) (j - kk) s0;have N:appD (0+kk) recs (λm=>decide (m<0+kk+(j - kk))) s0=appD (0+kk) recs (λm=>decide (m<j)) s0:=by rw [show 0+kk+(j - kk)=j by omega]
   rw [N] at I;rw [mW];exact I
 ·have:=iR ops 0 H j o e w U u;omega
 ·have:=lY (masks:=jw ops []) ops [] C i j x y (by simpa using c) (by simpa using hx) hy;simp only [dP,cP] at this;exact this.imp (a j i) λh=>h
 ·rcases b i x hx with ⟨rfl,_⟩ | ⟨Q,k,l⟩
  ·exact .inr (by simp [oY,keys])
  ·rcases b j y hy with ⟨rfl,_⟩ | ⟨W,V,O⟩
   ·exact .inr (by simp [oY,keys])
   ·have hx':=K (i - kk) x l;have hy':=K (j - kk) y O;rw [show kk+(i - kk)=i by omega] at hx';rw [show kk+(j - kk)=j by omega] at hy';rcases hx' with q | ⟨G,v⟩
    ·rcases hy' with z | ⟨p,D⟩
     ·by_cases f:(x.rd=[]/\x.wr=[])
      ·exact .inr (by simp [f.1,f.2,keys])
      ·by_cases g:(y.rd=[]/\y.wr=[])
       ·exact .inr (by simp [g.1,g.2,keys])
       ·have m1:(⟨i,x.rd,keys x.wr⟩:TE)∈trf.filter λx=>!(x.rd.isEmpty&&x.ws.isEmpty):=by
         refine oL.2 ⟨q,?_⟩;simp only [keys,kP,BV,Fz];rcases FP (x.rd=[]) with h | h
         ·exact .inr (by simpa using λE=>f ⟨h,E⟩)
         ·exact .inl h
        have m2:(⟨j,y.rd,keys y.wr⟩:TE)∈trf.filter λx=>!(x.rd.isEmpty&&x.ws.isEmpty):=by
         refine oL.2 ⟨z,?_⟩;simp only [keys,kP,BV,Fz];rcases FP (y.rd=[]) with h | h
         ·exact .inr (by simpa using λE=>g ⟨h,E⟩)
         ·exact .inl h
        have:=Bt (qp A _ m1 _ m2 c) c;exact this.imp (a j i) λh=>h
     ·exact .inr (by simp [p,D,keys])
    ·exact .inr (by simp [G,v,keys])
theorem Inv.grow {n:Nat} {ι0 ι:Inj} {w0:Base} {s:St} {a:Act} {w:World} (h:Inv n ι0 w0 ι s a w) (m:Nat):Inv n ι0 w0 ι { s with nb:=s.nb+m } a w:=
 ⟨h.size,h.defers,h.tmps,⟨h.mem.inj,λb r C=>by have:=h.mem.low b r C;simp only;omega,h.mem.dom,h.mem.blk⟩,h.ext,h.new,h.fr,h.low,h.fz,h.gl⟩
theorem Ci {ops:List Oper} (h:Qc ops=true):Region.noSelect ops.toArray=true:=by
 unfold Qc at h;unfold Region.noSelect;rw [List.all_toArray,co];rw [co] at h;intro o a;have:=h o a;cases b:o.op<;>simp_all
theorem Ih {α:Type} {E:List Ent} (hE:∀x∈E,fp P x) {n:Nat} {ops:List Oper} {lim:Nat} {s:St} {k:Ex->St->Option α} {z:α} (h:HS P E n ops lim s k=some z) (id:Nat):
  SemC P n (.region id ops.toArray true) s λex s'=>k ex s'=some z:=by
 intro ι0 w0 ι a w hI;unfold HS at h;simp only at h;generalize hkk:H4 (getN (jw ops []) lim) lim lim 0=kk at h;split at h
 case h_2=>cases h
 rename_i hok;simp only [az,Gu,Tv] at hok;obtain ⟨⟨L,hb2,hb3⟩,hmix,l,M,D,hup,t⟩:=hok;have l:lim<ops.length:=aE l;have M:=aE M;have g:=o9 ops ops [] (by simp) (λj i V=>by simp [getN] at V);have hI1:Inv n ι0 w0 ι { s with nb:=s.nb+8*ops.length } a { w with drawn:=w.drawn+1 }:=(hI.drawn (w.drawn+1)).grow _;let Q:Exit->Act->World->Prop:=λe a w=>e=.normal/\∃s' B,Inv n ι0 w0 B s' a w/\k .normal s'=some z;refine sI (λe a w (hq:Q e a w)=>?_) (wp_region_any (Q:=Q) hmix ?_)
 ·obtain ⟨rfl,s',B,q,K⟩:=hq;exact ⟨.normal,s',B,rfl,q,K⟩
 have hD0:∀i,Dn (Array.replicate ops.length false) i=false:=by
  intro i;unfold Dn;simp only [qN,Rj];split<;>rfl
 have hsz:ops.toArray.size=(ops.length - kk)+kk:=by simp;omega
 rw [hsz,show Array.replicate ((ops.length - kk)+kk) false=Array.replicate ops.length false by rw [Nat.sub_add_cancel (by omega)]];refine FB (Ci hb3) (λc a w hq=>by cases hq.1) kk 0 _ _ a D (by simp) (by omega) (λj U=>by omega) (λj _=>hD0 j) hI1 (by rw [ch];exact h) λs0 a0 f h hI0 J hs0 H y=>?_;simp only [cP] at H y;simp only at J;rcases Ar hE ((ops.take lim).drop kk) kk s0 [] (by simp;omega) h with ⟨recs,sf,trf,g1,C,g3,_,g5,g6⟩ | ⟨p,po,recs,sf,sp,trf,v,wr,rp,_,_,_,_,_,_,C,_⟩
 case inr=>cases C
 split at C
 case h_2=>cases C
 rename_i htr;have hl1:recs.length=lim - kk:=by rw [g1];simp;omega
 have hmid:∀j,j<lim - kk->((ops.take lim).drop kk)[j]?=ops[kk+j]?:=λj U=>by
  rw [lO,Im,ae (by omega)]
 have F:=Bv (P:=P) (n:=n) (nb0:=s.nb) (kk:=kk) (ops:=ops) (recs:=recs) (s0:=s0) (trf:=trf) L hb2 (by omega) J htr g5 (λj o r ho hr=>by
  have U:j<recs.length:=by
   rcases aF j recs.length with h' | h'
   ·exact h'
   ·rw [fW h'] at hr;cases hr
  exact g6 j o r (by rw [hmid j (by omega)];exact ho) hr)
 split at C
 case h_2=>cases C
 rename_i o hoa;split at C
 case h_2=>cases C
 rename_i hga;have W:appD 0 (List.replicate kk oY++(recs++List.replicate (ops.length - (kk+recs.length)) oY)) (Dn f) s0=s0:=by
  rw [ox,m8,mW];exact wN recs _ _ _ λj _=>y _ (by omega)
 have Z:∀m,((List.range m).filter λi=>!Dn f i).length<=m - kk:=by
  intro m
  induction m with
  | zero=>simp
  | succ m ih=>
   rw [List.range_succ,List.filter_append,bH];rcases aF m kk with hm | hm
   ·have:([m].filter λi=>!Dn f i)=[]:=by simp [H m hm]
    rw [this,dP];omega
   ·have:([m].filter λi=>!Dn f i).length<=1:=by simpa using List.length_filter_le (λi=>!Dn f i) [m]
    omega
 refine LO F (lim:=lim) (kk:=kk) l (λj q K=>⟨⟨q,by omega⟩,g lim j (pp hup j q (by omega))⟩) (λj q K=>g j lim (pp t j q (by omega))) (λfuel d ι1 a1 w1 hs1 I hn1 hdn0 hdn1 hI2 hc1=>?_) _ f ι a0 _ hs0 H (λj o' e ho A he V=>?_) (y lim M) (by rw [W];exact hI0) (λi hi hni b hb1' T=>hI.fresh b (by omega)) (Z _)
 ·
  have hD1:appD 0 (List.replicate kk oY++(recs++List.replicate (ops.length - (kk+recs.length)) oY)) (Dn d) s0=recs.foldl St.put s0:=by
   rw [ox,m8,mW];exact zw recs _ _ _ λj U=>I _ (by omega)
  rw [hD1] at hI2;have R:=hI2.eqv g3.symm;have hoa':ops.toArray[lim]?=some o:=by simpa using hoa
  unfold wpOp;rw [hoa'];simp only;rw [ae (by simp [Region.wanted,hga])];refine .inl (Az hE R (λb V=>R.fresh b V) (aP _) C (λG ι2 a2 w2 K hI4=>?_) (λv s' B x a' w' hk=>by cases hk));rcases Ar hE (ops.drop (lim+1)) (lim+1) { G with nb:=G.nb+8*ops.length } [] (by simp;omega) K with ⟨recs2,sf2,trf2,q1,q2,q3,_,q5,q6⟩ | ⟨p,po,recs2,sf2,sp2,trf2,v,wr,rp,_,_,_,_,_,_,q2,_⟩
  case inr=>cases q2
  split at q2
  case h_2=>cases q2
  rename_i htr2;have hl2:recs2.length=ops.length - (lim+1):=by rw [q1];simp
  have F2:=Bv (P:=P) (n:=n) (nb0:=G.nb) (kk:=lim+1) (ops:=ops) (recs:=recs2) (s0:={ G with nb:=G.nb+8*ops.length }) (trf:=trf2) L hb2 (by omega) rfl htr2 q5 (λj o r ho hr=>q6 j o r (by rw [lO];exact ho) hr);have hlt:lim<d.size:=by omega
  have u:Dn (d.setIfInBounds lim true)=λj=>if j=lim then true else Dn d j:=by
   funext j;exact yT hlt j
  have Y:∀j,lim<j->j<ops.length->Dn (d.setIfInBounds lim true) j=false:=by
   intro j q K;rw [u];simp only [show ¬j=lim by omega,aC];cases A:Dn d j with
   | false=>rfl
   | true=>
    have:=g j lim (pp t j q (by omega)) _ hdn0 A;rw [hn1] at this;cases this
  have X:∀O a3 w3,Inv n ι0 w0 O ((List.replicate (lim+1) oY++(recs2++List.replicate (ops.length - (lim+1+recs2.length)) oY)).foldl St.put { G with nb:=G.nb+8*ops.length }) a3 w3->Q .normal a3 w3:=by
   intro O a3 w3 S;rw [E1,E1,qd,qd] at S;exact ⟨rfl,sf2,O,S.eqv q3.symm,q2⟩
  have N:∀j,j<lim+1->Dn (d.setIfInBounds lim true) j=true:=by
   intro j U;rw [u];by_cases h:j=lim
   ·simp [h]
   ·simp only [h,aC];exact I j (by omega)
  have hI6:Inv n ι0 w0 ι2 (appD 0 (List.replicate (lim+1) oY++(recs2++List.replicate (ops.length - (lim+1+recs2.length)) oY)) (Dn (d.setIfInBounds lim true)) { G with nb:=G.nb+8*ops.length }) a2 w2:=by
   rw [ox,m8,mW,wN recs2 _ _ _ λj U=>Y _ (by omega) (by omega)];exact hI4.grow _
  have hc2:((List.range ops.length).filter λj=>!Dn (d.setIfInBounds lim true) j).length<=fuel:=by
   have:((List.range ops.length).filter λj=>!Dn (d.setIfInBounds lim true) j).length<((List.range ops.length).filter λj=>!Dn d j).length:=by
    rw [u];have hsub:((List.range ops.length).filter λj=>!(if j=lim then true else Dn d j))=((List.range ops.length).filter λj=>!Dn d j).filter λj=>decide (j≠lim):=by
     rw [EL];congr 1;funext j;by_cases hji:j=lim<;>simp [hji]
    rw [hsub];refine Gw.2 ⟨lim,by simp [l,hn1],by simp⟩
   omega
  exact CO F2 (ι0:=ι0) (w0:=w0) (kk:=lim+1) (λj q K=>⟨q,by omega⟩) X fuel _ ι2 a2 w2 (by simpa using hs1) N hdn1 hI6 (λi hi hni b hb1' T=>hI4.fresh b (by omega)) hc2
 ·have q:=iR ops 0 L j o' e ho he V;refine H _ ?_;rcases aF j kk with h | h
  ·omega
  ·rw [y j h] at A;cases A
theorem MO {α:Type} {E:List Ent} (a:∀x∈E,fp P x) {n:Nat} {ops:List Oper} {s:St} {k:Ex->St->Option α} {z:α} (h:Pg P E n ops s k=some z) (id:Nat):
  SemC P n (.region id ops.toArray true) s λex s'=>k ex s'=some z:=by
 unfold Pg at h;split at h
 ·exact Hj a h id
 ·exact Ih a h id
end Go.Abs
