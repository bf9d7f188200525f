
import Derived.Test.YtibehcmomiplnabGreatDoorAbsO
set_option linter.unusedSimpArgs false
set_option linter.unusedVariables false
set_option linter.defProp false
namespace Go.Abs
variable {P:Program}
mutual
def V.ren(ρ:List Nat):V->V
 | .p c o=>.p (getN ρ c) o
 | .sl c o n m=>.sl (getN ρ c) o n m
 | .pr z c j o=>.pr z (getN ρ c) j o
 | .ws c=>.ws (getN ρ c)
 | .mp c=>.mp (getN ρ c)
 | .rs z c j n m=>.rs z (getN ρ c) j n m
 | .unk=>.unk
 | .fn f l=>.fn f (V.rens ρ l)
 | .ag l=>.ag (V.rens ρ l)
 | .tp l=>.tp (V.rens ρ l)
 | .it t v=>.it t (V.ren ρ v)
 | .b x=>.b x
 | .i k n=>.i k n
 | .s l=>.s l
 | .pn=>.pn
 | .sn=>.sn
 | .nf=>.nf
 | .ni=>.ni
 | .ai k n l=>.ai k n l
def V.rens(ρ:List Nat):List V->List V
 | []=>[]
 | v::l=>V.ren ρ v::V.rens ρ l
end
def Blk.ren(ρ:List Nat):Blk->Blk
 | .cells l=>.cells (V.rens ρ l)
 | .dead=>.dead
 | .rows t l=>.rows t l
 | .ints k n l=>.ints k n l
 | .iter s pos=>.iter s pos
 | .mp k l=>.mp k l
def renH(ρ:List Nat):List (Nat×Blk)->List (Nat×Blk)
 | []=>[]
 | (b,x)::l=>(getN ρ b,x.ren ρ)::renH ρ l
def mE(ι:Inj)(ρ:List Nat):Inj:=λb=>cond (Nat.blt b ρ.length) (ι (getN ρ b)) none
def mz{ι:Inj}{ρ:List Nat}{b:Nat}(h:b<ρ.length):mE ι ρ b=ι (getN ρ b):=by
 have:Nat.blt b ρ.length=true:=dc h;simp[mE,this]
def dW{ι:Inj}{ρ:List Nat}{b:Nat}{r:Option Rf}(h:mE ι ρ b=some r):b<ρ.length/\ι (getN ρ b)=some r:=by
 unfold mE at h;cases a:Nat.blt b ρ.length with
 | true=>rw[a]at h;exact⟨aR a,h⟩
 | false=>rw[a]at h;cases h
mutual
def VR.ren{ι:Inj}{ρ:List Nat}:∀(v:V) (x:Value),V.lt ρ.length v=true->(VR ι (V.ren ρ v) x↔VR (mE ι ρ) v x)
 | .b _,_,_ | .i _ _,_,_ | .s _,_,_ | .pn,_,_ | .sn,_,_ | .nf,_,_ | .ni,_,_ | .ai _ _ _,_,_ | .unk,_,_=>by simp only[V.ren,VR]
 | .p c o,x,h | .pr z c j o,x,h | .ws c,x,h | .rs z c j n _,x,h | .mp c,x,h=>by
  simp only[V.lt]at h;simp only[V.ren,VR,mz (ι:=ι) (aR h:c<ρ.length)]
 | .sl c o n m,x,h=>by
  simp only[V.lt]at h;simp only[V.ren,VR,mz (ι:=ι) (aR h:c<ρ.length)]
 | .fn f l,x,h=>by
  simp only[V.lt]at h;simp only[V.ren,VR];exact sQ λC=>xy λ_=>VRs.ren l C.toList h
 | .it t v,x,h=>by
  simp only[V.lt]at h;simp only[V.ren,VR];exact sQ λy=>xy λ_=>VR.ren v y h
 | .ag l,x,h=>by
  simp only[V.lt]at h;simp only[V.ren,VR];exact sQ λC=>xy λ_=>VRs.ren l C.toList h
 | .tp l,x,h=>by
  simp only[V.lt]at h;simp only[V.ren,VR];exact sQ λC=>xy λ_=>VRs.ren l C.toList h
def VRs.ren{ι:Inj}{ρ:List Nat}:∀(l:List V) (C:List Value),V.lts ρ.length l=true->(VRs ι (V.rens ρ l) C↔VRs (mE ι ρ) l C)
 | [],_,_=>by simp[V.rens,VRs]
 | v::l,C,h=>by
  simp only[V.lts,aD]at h;simp only[V.rens,VRs];exact sQ λy=>sQ λE=>xy λ_=>and_congr (VR.ren v y h.1) (VRs.ren l E h.2)
end
def BR.ren{ι:Inj}{ρ:List Nat}{q:Rf}:∀{blk:Blk} {o:Obj},Blk.lt ρ.length blk=true->(BR ι q (blk.ren ρ) o↔BR (mE ι ρ) q blk o)
 | .dead,_,_ | .ints _ _ _,_,_ | .iter _ _,_,_ | .rows _ _,_,_ | .mp _ _,_,_=>by simp[Blk.ren,BR]
 | .cells l,o,h=>by
  simp only[Blk.lt]at h;simp only[Blk.ren,BR];exact sQ λC=>sQ λe=>sQ λfr=>xy λ_=>and_congr_left λ_=>VRs.ren l C.toList h
def Blk.ren_nil{ρ:List Nat}{blk:Blk}{t:List Lf}:blk.ren ρ=.rows t []↔blk=.rows t []:=by
 cases blk<;>simp[Blk.ren]
def Blk.ren_dead{ρ:List Nat}{blk:Blk}:blk.ren ρ=.dead↔blk=.dead:=by
 cases blk<;>simp[Blk.ren]
def DI(H:List (Nat×Blk)):Nat->Bool
 | 0=>true
 | m+1=>(match look H m with | some .dead=>false | some _=>true | none=>false)&&DI H m
def xx{H:List (Nat×Blk)}:∀{m:Nat},DI H m=true->∀b,b<m->∃blk,look H b=some blk/\blk≠.dead
 | 0,_,b,f=>by omega
 | m+1,h,b,f=>by
  simp only[DI,aD]at h;by_cases a:b=m
  ·subst a;have c:=h.1;split at c
   ·cases c
   ·rename_i blk g d;exact⟨blk,d,λe=>g (by rw[e])⟩
   ·cases c
  ·exact xx h.2 b (by omega)
def o8:∀{l:List Nat} {b:Nat},b<l.length->getN l b∈l
 | [],_,h=>by simp at h
 | x::l,0,_=>by simp[getN]
 | x::l,b+1,h=>by simp only[getN];exact fV _ (o8 (by simpa using h))
def uJ:∀{l:List Nat} {b c:Nat},l.Nodup->b<l.length->c<l.length->getN l b=getN l c->b=c
 | [],_,_,_,h,_,_=>by simp at h
 | x::l,0,0,_,_,_,_=>rfl
 | x::l,0,c+1,a,_,hc,h=>by
  simp only[getN]at h;have:=o8 (l:=l) (b:=c) (by simpa using hc);rw[<-h]at this;exact absurd this (Bt.1 a).1
 | x::l,b+1,0,a,d,_,h=>by
  simp only[getN]at h;have:=o8 (l:=l) (b:=b) (by simpa using d);rw[h]at this;exact absurd this (Bt.1 a).1
 | x::l,b+1,c+1,a,d,hc,h=>by
  simp only[getN]at h;have:=uJ (Bt.1 a).2 (by simpa using d) (by simpa using hc) h;omega
def F4{ρ:List Nat}(l:ρ.Nodup):∀{H:List (Nat×Blk)} {c:Nat} {blk:Blk},(∀b∈keys H,b<ρ.length)->look (renH ρ H) c=some blk->∃b a,c=getN ρ b/\b<ρ.length/\look H b=some a/\blk=a.ren ρ
 | [],c,blk,_,h=>by simp[renH,look]at h
 | (b,x)::H,c,blk,g,h=>by
  simp only[renH,bh]at h;split at h
  ·rename_i e;simp only[aw]at h;exact⟨b,x,e.symm,g b (by simp[keys]),by simp[bh],h.symm⟩
  ·rename_i e;obtain⟨d,y,i,n,k,j⟩:=F4 l (λq m=>g q (by simp only[keys,gW,ck];exact .inr m)) h;refine⟨d,y,i,n,?_,j⟩;rw[bh,ab (λf=>e (by rw[f,i])),k]
def G3(ρ:List Nat):∀H:List (Nat×Blk),keys (renH ρ H)=(keys H).map (getN ρ)
 | []=>rfl
 | (b,x)::H=>by
  have:=G3 ρ H;simp only[keys]at this ⊢;simp[renH,this]
def GM{wr:List (Nat×Blk)}{ι:Inj}{b:Nat}(h:b∈keys wr):xP wr ι b=ι b:=by
 unfold xP;rw[ae];simp only[keys,eY]at h;obtain⟨x,hx,rfl⟩:=h;exact vk.2 ⟨x,hx,by simp⟩
def EE{ρ:List Nat}:∀{H:List (Nat×Blk)} {b:Nat} {v:Blk},look H b=some v->(getN ρ b,v.ren ρ)∈renH ρ H
 | [],_,_,h=>by cases h
 | (c,x)::H,b,v,h=>by
  rw[bh]at h;simp only[renH];split at h
  ·rename_i e;subst e;simp only[aw]at h;subst h;exact kY
  ·exact fV _ (EE h)
def AH{ρ:List Nat}(g:ρ.Nodup):∀{H:List (Nat×Blk)} {b:Nat} {blk:Blk},(∀b∈keys H,b<ρ.length)->look H b=some blk->look (renH ρ H) (getN ρ b)=some (blk.ren ρ)
 | [],b,blk,_,h=>by cases h
 | (c,x)::H,b,blk,f,h=>by
  have i:b<ρ.length:=by
   refine f b ?_;have:b∈((c,x)::H).map (·.1):=by
    by_cases a:b∈((c,x)::H).map (·.1)
    ·exact a
    ·rw[tU a]at h;cases h
   exact this
  have hc:c<ρ.length:=f c (by simp[keys]);rw[bh]at h;simp only[renH,bh];split at h
  ·rename_i e;subst e;simp only[aw]at h;subst h;rw[ae rfl]
  ·rename_i d;rw[ab (λe=>d (uJ g hc i e))];exact AH g (λq j=>f q (by simp only[keys,gW,ck];exact .inr j)) h
structure FOut where
 pan:Bool
 val:V
 H:List (Nat×Blk)
 news:List Nat:=[]
def Fj(P:Program)(f:Nat)(args:List V)(H0:List (Nat×Blk))(m ro rb:Nat)(out:FOut):Prop:=
 ∀(ι0:Inj) (w:World) (a:Array Value),WR ι0 H0 m w->(∀b q,ι0 b=some (some q)->q.fz=true->b<ro)->GL (roI ι0 ro) w->VRs ι0 args a.toList->
  Calls P f a w λe w'=>∃ι:Inj,(∀b,b<m->b<rb->ι b=ι0 b)/\(∀b q,ι b=some (some q)->(∃c,ι0 b=some (some c)/\c.r=q.r)\/w.heap.size<=q.r)/\
   WR ι out.H (m+out.news.length) w'/\(∀b q,ι b=some (some q)->q.fz=true->b<ro)/\Fr (roI ι0 ro) w w'/\RetR ι { val:=out.val,pan:=out.pan } e
def Z0(m c:Nat)(acc:List Nat):List Nat:=cond (Nat.blt c m) acc (cond (acc.any (Nat.beq c)) acc (acc++[c]))
mutual
def V.news(m:Nat):V->List Nat->List Nat
 | .p c _,acc | .sl c _ _ _,acc | .pr _ c _ _,acc | .ws c,acc | .rs _ c _ _ _,acc | .mp c,acc=>Z0 m c acc
 | .fn _ l,acc | .ag l,acc | .tp l,acc=>V.newss m l acc
 | .it _ v,acc=>V.news m v acc
 | .b _,acc | .i _ _,acc | .s _,acc | .pn,acc | .sn,acc | .nf,acc | .ni,acc | .ai _ _ _,acc | .unk,acc=>acc
def V.newss(m:Nat):List V->List Nat->List Nat
 | [],acc=>acc
 | v::l,acc=>V.newss m l (V.news m v acc)
end
def HV(m:Nat)(H:List (Nat×Blk)):List Nat->List Nat->List Nat
 | [],acc=>acc
 | b::l,acc=>match look H b with
  | some (.cells c)=>HV m H l (V.newss m c acc)
  | _=>HV m H l acc
def upTo:Nat->Nat->List Nat
 | _,0=>[]
 | b,n+1=>b::upTo (b+1) n
def kj:List Nat->Bool
 | []=>true
 | x::l=>l.all (λy=>!Nat.beq x y)&&kj l
def sH:∀{l:List Nat},kj l=true->l.Nodup
 | [],_=>List.nodup_nil
 | x::l,h=>by
  simp only[kj,aD,cb]at h;refine Bt.2 ⟨λhx=>?_,sH h.2⟩;have:=h.1 x hx;simp at this
def funX{R:Type}(ws:List Nat)(m ro rb:Nat)(a:Bool->V->List (Nat×Blk)->List Nat->Option R):Bool->V->St->Option R:=
 λpan v s=>match V.newss m [v] (HV m s.H ws [])with
  | nw=>match kj nw&&(nw.all (Nat.ble m)&&(Nat.beq s.ro ro&&Nat.beq s.rb rb))with
   | true=>Ug s.nb s.H (ws++nw) λH=>a pan v H nw
   | false=>none
def sV:∀(n b:Nat),(upTo b n).length=n
 | 0,_=>rfl
 | n+1,b=>by simp[upTo,sV n]
def yQ:∀(n b c:Nat) (l:List Nat),c<n->getN (upTo b n++l) c=b+c
 | 0,_,_,_,h=>by omega
 | n+1,b,0,l,_=>rfl
 | n+1,b,c+1,l,h=>by
  simp only[upTo,fK,getN,yQ n (b+1) c l (by omega)];omega
def pm:∀{n b c:Nat},c∈upTo b n↔b<=c/\c<b+n
 | 0,b,c=>by simp only[upTo,nB,false_iff];omega
 | n+1,b,c=>by
  simp only[upTo,ck,pm (n:=n)];omega
def uO:∀(n b:Nat),(upTo b n).Nodup
 | 0,_=>List.nodup_nil
 | n+1,b=>Bt.2 ⟨λh=>by have:=pm.1 h;omega,uO n (b+1)⟩
def li:∀(l k:List Nat) (c:Nat),getN (l++k) (l.length+c)=getN k c
 | [],k,c=>by simp
 | x::l,k,c=>by
  rw[aI,show l.length+1+c=(l.length+c)+1 by omega];simp only[fK,getN,li l k c]
def qN:∀(l k:List Nat) (c:Nat),c<l.length->getN (l++k) c=getN l c
 | [],k,c,h=>by simp at h
 | x::l,k,0,_=>rfl
 | x::l,k,c+1,h=>by simp only[fK,getN,qN l k c (by simpa using h)]
def XG{R:Type}{ws:List Nat}{m ro rb:Nat}{un:Bool->V->List (Nat×Blk)->List Nat->Option R}{out:R->FOut}
  (hun:∀pan v H d r,un pan v H d=some r->(out r).pan=pan/\(out r).news.length=d.length/\v=V.ren (upTo 0 m++d) (out r).val/\H=renH (upTo 0 m++d) (out r).H)
  (hv:∀r,V.lt (m+(out r).news.length) (out r).val=true) (hH:∀r b blk,look (out r).H b=some blk->Blk.lt (m+(out r).news.length) blk=true)
  (hk:∀r,∀b∈keys (out r).H,b<m+(out r).news.length)
  (G:ro<=m) {f:Nat} {args:List V} {H0:List (Nat×Blk)} {r:R} (K:DI H0 m=true) (I:D2 P f args H0 m ro (funX ws m ro rb un) r):Fj P f args H0 m ro rb (out r):=by
 intro ι0 w xs hW X T hx;refine(I ι0 w xs hW X T hx).mono λe w' ⟨pan,u,s,ι,n,h2,h3,W,h4f,h5,S⟩=>?_;unfold funX at n;simp only at n;split at n
 case h_2=>cases n
 rename_i k;simp only[aD,kx,cb]at k;obtain⟨E,A,D,hrb⟩:=k;obtain⟨H',g1,g2⟩:=KI n;obtain⟨Y,U,Z,p4⟩:=hun _ _ _ _ _ g1;generalize hnw:V.newss m [u] (HV m s.H ws [])=d at *;subst Y;have c:(upTo 0 m++d).length=m+(out r).news.length:=by rw[aV,sV,U]
 have M:(upTo 0 m++d).Nodup:=by
  refine Jk.2 ⟨uO m 0,sH E,λa ha b k hab=>?_⟩;subst hab;have n:=(pm.1 ha).2;have h2:=aR (A a k);omega
 have j:∀b,b<m->getN (upTo 0 m++d) b=b:=λb k=>by rw[yQ m 0 b _ k];omega
 have B:∀b,m<=b->ι0 b=none:=by
  intro b k;cases hi:ι0 b with
  | none=>rfl
  | some q=>have:=hW.low b q hi;omega
 have g:∀{b q},mE ι (upTo 0 m++d) b=some q->b<m+(out r).news.length/\ι (getN (upTo 0 m++d) b)=some q:=λh=>by
  have:=dW h;rwa[c]at this
 refine⟨mE ι (upTo 0 m++d),λb n h1'=>?_,λb q F=>?_,⟨λb b' q q' e1 y Q=>?_,λb q e=>(g e).1,λb q e=>W.dom _ _ (g e).2,λb blk O hd=>?_⟩,λb q e F=>?_,by rw[D]at h5;exact h5,?_⟩
 ·rw[mz (by rw[c];omega),j b n];obtain⟨blk,q1,q2⟩:=xx K b n;have hs:∃q,ι0 b=some q:=by
   rcases hW.blk b blk q1 q2 with⟨q,_,C,_⟩ | ⟨C,_⟩
   ·exact⟨_,C⟩
   ·exact⟨_,C⟩
  obtain⟨q,C⟩:=hs;rcases h2 b q C with h | h
  ·rw[h,C]
  ·rw[hrb]at h;omega
 ·obtain⟨e1,y⟩:=g F;by_cases z:b<m
  ·rw[j b z]at y;exact h3 b q y
  ·rcases h3 _ q y with⟨q',Q,_⟩ | h
   ·obtain⟨i,rfl⟩:∃i,b=m+i:=⟨b - m,by omega⟩;have J:=li (upTo 0 m) d i;rw[sV]at J;rw[J,B _ (aR (A _ (o8 (by omega))))]at Q;cases Q
   ·exact .inr h
 ·obtain⟨a1,a2⟩:=g e1;obtain⟨b1,b2⟩:=g y;exact(W.inj _ _ _ _ a2 b2 Q).imp (uJ M (by rw[c];exact a1) (by rw[c];exact b1)) id
 ·have k:b<m+(out r).news.length:=hk r b (by
   by_cases p:b∈(out r).H.map (·.1)
   ·exact p
   ·rw[tU p]at O;cases O)
  have N:=AH M (λq F=>by rw[c];exact hk r q F) O;rw[<-p4]at N;obtain⟨q1,_,_⟩:=g2 _ _ N;exact(W.blk _ _ q1 (λe=>hd (Blk.ren_dead.1 e))).map (mz (by rw[c];exact k)) (λ_ _=>rfl) (λq o hbr=>(BR.ren (by rw[c];exact hH r b blk O)).1 hbr) (λt e=>Blk.ren_nil.1 e)
 ·obtain⟨e1,y⟩:=g e;have:=h4f _ q y F;rw[D]at this;by_cases z:b<m
  ·rwa[j b z]at this
  ·exfalso;obtain⟨i,rfl⟩:∃i,b=m+i:=⟨b - m,by omega⟩;have J:=li (upTo 0 m) d i;rw[sV]at J;rw[J]at this y;have hge':=aR (A _ (o8 (l:=d) (b:=i) (by omega)));have G:ro<=m:=G;omega
 ·have L:∀x,VR ι u x->VR (mE ι (upTo 0 m++d)) (out r).val x:=by
   intro x hx;rw[Z]at hx;exact(VR.ren _ x (by rw[c];exact hv r)).1 hx
  cases e with
  | returned x=>exact⟨S.1,L x S.2⟩
  | panicked chain=>
   obtain⟨Y,x,U,Z⟩:=S;exact⟨Y,x,U,L x Z⟩
  | outgrown=>exact S
def idxN:List Nat->Nat->Option Nat
 | [],_=>none
 | x::l,c=>if x=c then some 0 else(idxN l c).map (·+1)
def rl:∀{l:List Nat} {c i:Nat},idxN l c=some i->i<l.length/\getN l i=c
 | [],c,i,h=>by cases h
 | x::l,c,i,h=>by
  simp only[idxN]at h;split at h
  ·rename_i e;simp only[aw]at h;subst h;exact⟨by simp,e⟩
  ·cases a:idxN l c with
   | none=>simp[a]at h
   | some j=>
    simp only[a,fQ,aw]at h;subst h;obtain⟨d,b⟩:=rl a;exact⟨by simp;omega,by simp only[getN,b]⟩
def RZ{l:List Nat}(b:l.Nodup){i:Nat}(h:i<l.length):idxN l (getN l i)=some i:=by
 cases hi:idxN l (getN l i)with
 | none=>
  exfalso;have:∀(l:List Nat) (c:Nat),c∈l->idxN l c≠none:=by
   intro l
   induction l with
   | nil=>intro c h;simp at h
   | cons x l ih=>
    intro c hc;simp only[idxN];split
    ·simp
    ·rename_i a;simp only[ck]at hc;have:=ih c (hc.resolve_left λe=>a e.symm);cases hx:idxN l c with
     | none=>exact absurd hx this
     | some _=>simp
  exact this l _ (o8 h) hi
 | some j=>
  obtain⟨f,d⟩:=rl hi;rw[uJ b f h d]
def zb(rb:Nat)(ρ:List Nat):List Nat:=ρ.drop rb
def BO{ρ:List Nat}:∀{rb i:Nat},rb<=i->i<ρ.length->getN ρ i∈zb rb ρ:=by
 unfold zb
 induction ρ with
 | nil=>intro rb i _ h;simp at h
 | cons x l ih=>
  intro rb i b a;cases rb with
  | zero=>exact o8 a
  | succ rb=>
   cases i with
   | zero=>omega
   | succ i=>
    simp only[pP,getN];exact ih (by omega) (by simpa using a)
def G6{ρ:List Nat}:∀{rb c:Nat},c∈zb rb ρ->∃i,rb<=i/\i<ρ.length/\getN ρ i=c:=by
 unfold zb
 induction ρ with
 | nil=>intro rb c h;simp at h
 | cons x l ih=>
  intro rb c h;cases rb with
  | zero=>
   have:∀(l:List Nat),c∈l->∃i,0<=i/\i<l.length/\getN l i=c:=by
    intro l
    induction l with
    | nil=>intro h;simp at h
    | cons y l b=>
     intro h;rcases ck.1 h with rfl | h
     ·exact⟨0,bi _,by simp,rfl⟩
     ·obtain⟨i,_,d,a⟩:=b h;exact⟨i+1,by omega,by simpa using d,a⟩
   exact this _ (by simpa using h)
  | succ rb=>
   simp only[pP]at h;obtain⟨i,e,d,a⟩:=ih h;exact⟨i+1,by omega,by simpa using d,a⟩
def EZ{K:List Nat}{b:Nat}:isIn K b=true↔b∈K:=by
 unfold isIn;rw[vk];constructor
 ·rintro⟨x,hx,a⟩;rw[bO a];exact hx
 ·intro h;exact⟨b,h,by simp⟩
def Fj.call{f:Nat}{args:List V}{H0:List (Nat×Blk)}{m ro rb:Nat}{out:FOut}(h:Fj P f args H0 m ro rb out)(hrr:ro<=rb)(hrm:ro<=m){ρ:List Nat}(hm:ρ.length=m)(hn:ρ.Nodup)
  (ha:V.lts m args=true) (hk0:∀b blk,look H0 b=some blk->b<m/\Blk.lt m blk=true) (hall:DI H0 m=true) (hko:∀b∈keys out.H,b<m+out.news.length) (hlo:∀b blk,look out.H b=some blk->Blk.lt (m+out.news.length) blk=true)
  (hw:∀b,ro<=b->b<m+out.news.length->b∈keys out.H) (hv:V.lt (m+out.news.length) out.val=true) {H:List (Nat×Blk)} (hH:∀b blk,look H0 b=some blk->look H (getN ρ b)=some (blk.ren ρ)) (fr:Nat):
  JK P f (V.rens ρ args) H fr { val:=V.ren (ρ++upTo fr out.news.length) out.val,pan:=out.pan,rd:=ρ,wr:=renH (ρ++upTo fr out.news.length) out.H,grow:=out.news.length,kill:=zb rb ρ }:=by
 subst hm;intro ι nb w xs hW hgl hfw hfr hx;have hmap:∀b,b<ρ.length->∃q,ι (getN ρ b)=some q:=by
  intro b E;obtain⟨blk,q1,q2⟩:=xx hall b E;rcases hW.blk (getN ρ b) (blk.ren ρ) (hH b blk q1) (λe=>q2 (Blk.ren_dead.1 e))with⟨q,_,q3,_⟩ | ⟨q3,_⟩
  ·exact⟨_,q3⟩
  ·exact⟨_,q3⟩
 have hWI:WR (mE ι ρ) H0 ρ.length w:=by
  refine⟨λb b' q q' Q e2 e3=>?_,λb q e=>(dW e).1,λb q e=>hW.dom _ _ (dW e).2,λb blk hl hd=>?_⟩
  ·obtain⟨a1,a2⟩:=dW Q;obtain⟨b1,b2⟩:=dW e2;exact(hW.inj _ _ _ _ a2 b2 e3).imp (uJ hn a1 b1) id
  ·obtain⟨c1,c2⟩:=hk0 b blk hl;exact(hW.blk (getN ρ b) (blk.ren ρ) (hH b blk hl) (λe=>hd (Blk.ren_dead.1 e))).map (mz c1) (λ_ _=>rfl) (λ_ _ hbr=>(BR.ren c2).1 hbr) (λt e=>Blk.ren_nil.1 e)
 have hf0:∀b q,mE ι ρ b=some (some q)->q.fz=true->b<ro:=by
  intro b q E hq;rcases aN b ro with h | h
  ·exact h
  ·exfalso;obtain⟨a1,a2⟩:=dW E;obtain⟨v,hv'⟩:=uQ (hw b h (by omega));have hkey:(getN (ρ++upTo fr out.news.length) b,v.ren (ρ++upTo fr out.news.length))∈renH (ρ++upTo fr out.news.length) out.H:=EE hv';have:=hfw _ hkey q (by simp only;rw[qN _ _ _ a1];exact a2);rw[this]at hq;cases hq
 have hgl0:GL (roI (mE ι ρ) ro) w:=hgl.mono λb q E=>by
  obtain⟨a1,a2⟩:=dW (sG E);obtain⟨v,hv'⟩:=uQ (hw b (OA E) (by omega));have hkey:(getN (ρ++upTo fr out.news.length) b,v.ren (ρ++upTo fr out.news.length))∈renH (ρ++upTo fr out.news.length) out.H:=EE hv';rw[qN _ _ _ a1]at hkey;exact .inl ⟨_,q,by rw[GM (eY.2 ⟨_,hkey,rfl⟩)];exact a2,rfl⟩
 refine(h (mE ι ρ) w xs hWI hf0 hgl0 ((VRs.ren args _ ha).1 hx)).mono λe w' ⟨W,d1,d2,g1,g1f,g2,g3⟩=>?_;have hsz:=g2.size;generalize hg:out.news.length=g at *;generalize hρ:ρ++upTo fr g=C at *;have F:C.length=ρ.length+g:=by rw[<-hρ,aV,sV]
 have hold:∀b,b<ρ.length->getN C b=getN ρ b:=λb E=>by rw[<-hρ,qN _ _ _ E]
 have hnew:∀i,i<g->getN C (ρ.length+i)=fr+i:=λi hi=>by
  rw[<-hρ,li];have:=yQ g fr i [] hi;rwa[mi]at this
 have hnd:C.Nodup:=by
  rw[<-hρ];refine Jk.2 ⟨hn,uO g fr,λa ha b E hab=>?_⟩;subst hab;obtain⟨G,U⟩:=pm.1 E;obtain⟨i,_,hi1,hi2⟩:=G6 (rb:=0) (ρ:=ρ) (c:=a) (by simpa[zb]using ha);obtain⟨q,hq⟩:=hmap i hi1;rw[hi2,hfr a G U]at hq;cases hq
 have hidx:∀{b},b<ρ.length+g->idxN C (getN C b)=some b:=λE=>RZ hnd (by rw[F];exact E);have hι':∃O:Inj,(∀c i,idxN C c=some i->O c=W i)/\(∀c,idxN C c=none->O c=ι c):=
  ⟨λc=>match idxN C c with | some i=>W i | none=>ι c,λc i hc=>by simp only[hc],λc hc=>by simp only[hc]⟩
 obtain⟨O,Y,X⟩:=hι';have hat:∀b,b<ρ.length+g->O (getN C b)=W b:=λb E=>Y _ _ (hidx E);have hI:mE O C=W:=by
  funext b;rcases aN b (ρ.length+g)with E | E
  ·rw[mz (by rw[F];exact E),hat b E]
  ·have Q:mE O C b=none:=by
    cases hc:mE O C b with
    | none=>rfl
    | some q=>have:=(dW hc).1;omega
   have e2:W b=none:=by
    cases hc:W b with
    | none=>rfl
    | some q=>have:=g1.low b q hc;omega
   rw[Q,e2]
 have Z:∀b,b<ρ.length->b<rb->W b=ι (getN ρ b):=λb G U=>by rw[d1 b G U,mz G]
 have J:∀{c i},idxN C c=some i->(i<ρ.length/\c=getN ρ i)\/(∃j,i=ρ.length+j/\j<g/\c=fr+j):=by
  intro c i hi;obtain⟨G,U⟩:=rl hi;rcases aN i ρ.length with h | h
  ·exact .inl ⟨h,by rw[<-U,hold i h]⟩
  ·refine .inr ⟨i - ρ.length,by omega,by omega,?_⟩;rw[<-U,<-hnew (i - ρ.length) (by omega)];congr 1;omega
 have hheap:∀c q,ι c=some (some q)->(∀i,idxN C c=some i->i<ro)->w'.heap[q.r]?=w.heap[q.r]?:=by
  intro c q hc hno;refine g2.blk q.r (hW.dom c q hc) λb p E hr=>?_;have h0:=sG E;obtain⟨a1,a2⟩:=dW h0;have hge:ro<=b:=by
   unfold roI at E;rcases aN b ro with h' | h'
   ·rw[show Nat.blt b ro=true from dc h']at E;cases E
   ·exact h'
  have hcb:c=getN ρ b:=(hW.inj _ _ _ _ hc a2 hr.symm).resolve_right λhh=>by have:=hf0 b p h0 hh.2;omega
  have hlt:=hno b (by rw[hcb,<-hold b a1];exact hidx (by omega));unfold roI at E;rw[show Nat.blt b ro=true from dc hlt]at E;cases E
 refine⟨O,λc hk hc=>?_,λc q hk hc=>?_,λc q G U hc=>?_,λc q hc hq=>?_,⟨λc c' q q' Q e2 e3=>?_,λc q hc=>?_,λc q hc=>?_,λc blk hl hd=>?_⟩,⟨g2.os,g2.tape,g2.output,g2.size,λk hk hno=>g2.blk k hk λb q E hr=>?_⟩,?_⟩
 ·cases hi:idxN C c with
  | none=>exact X c hi
  | some i=>
   rw[Y c i hi];rcases J hi with⟨G,rfl⟩ | ⟨j,_,U,rfl⟩
   ·refine Z i G ?_;rcases aN i rb with h | h
    ·exact h
    ·rw[EZ.2 (BO h G)]at hk;cases hk
   ·simp only at hc;omega
 ·obtain⟨i,G,U,rfl⟩:=G6 (EZ.1 hk);have:O (getN ρ i)=W i:=by rw[<-hold i U];exact hat i (by omega)
  rw[this]at hc;rcases d2 i q hc with⟨q',Q,e2⟩ | h
  ·exact .inl ⟨q',(dW Q).2,e2⟩
  ·exact .inr h
 ·simp only at U;have hcj:c=getN C (ρ.length+(c - fr)):=by rw[hnew _ (by omega)];omega
  rw[hcj,hat _ (by omega)]at hc;rcases d2 _ q hc with⟨q',Q,_⟩ | h
  ·have:=(dW Q).1;omega
  ·exact h
 ·cases hi:idxN C c with
  | none=>rw[X c hi]at hc;exact hc
  | some i=>
   rw[Y c i hi]at hc;have hlt:=g1f i q hc hq;rcases J hi with⟨G,rfl⟩ | ⟨j,rfl,U,rfl⟩
   ·rw[<-Z i G (by omega)];exact hc
   ·exfalso;rcases d2 _ q hc with⟨p,Q,_⟩ | _
    ·have:=(dW Q).1;omega
    ·omega
 ·have far:∀{c c' i q q'},idxN C c=some i->idxN C c'=none->W i=some (some q)->ι c'=some (some q')->q.r=q'.r->q.fz=true/\q'.fz=true:=by
   intro c c' i q q' G U h3 h4 h5;rcases d2 i q h3 with⟨p,Q,e2⟩ | h
   ·obtain⟨a1,a2⟩:=dW Q;rcases hW.inj _ _ _ _ a2 h4 (e2.trans h5)with this | ⟨z1,z2⟩
    ·rw[<-this,<-hold i a1,hidx (by omega)]at U;cases U
    ·have hlt:=hf0 i p Q z1;have:=d1 i a1 (by omega);rw[h3,Q]at this;simp only[aw]at this;exact⟨by rw[this];exact z1,z2⟩
   ·have:=hW.dom c' q' h4;omega
  cases hi:idxN C c with
  | none=>
   rw[X c hi]at Q;cases hi':idxN C c' with
   | none=>rw[X c' hi']at e2;exact hW.inj _ _ _ _ Q e2 e3
   | some i'=>rw[Y c' i' hi']at e2;exact .inr (far hi' hi e2 Q e3.symm).symm
  | some i=>
   rw[Y c i hi]at Q;cases hi':idxN C c' with
   | none=>rw[X c' hi']at e2;exact .inr (far hi hi' Q e2 e3)
   | some i'=>
    rw[Y c' i' hi']at e2;refine(g1.inj _ _ _ _ Q e2 e3).imp (λthis=>?_) id;rw[<-(rl hi).2,<-(rl hi').2,this]
 ·simp only;cases hi:idxN C c with
  | none=>
   rw[X c hi]at hc;have:=hW.low c q hc;omega
  | some i=>
   rcases J hi with⟨G,rfl⟩ | ⟨j,_,U,rfl⟩
   ·obtain⟨p,hp⟩:=hmap i G;have:=hW.low _ _ hp;omega
   ·omega
 ·cases hi:idxN C c with
  | none=>
   rw[X c hi]at hc;have:=hW.dom c q hc;omega
  | some i=>rw[Y c i hi]at hc;exact g1.dom i q hc
 ·simp only at hl;rw[sd]at hl;cases hlr:look (renH C out.H) c with
  | some x=>
   rw[hlr]at hl;simp only[Option.some_or,aw]at hl;subst hl;obtain⟨b,blk',rfl,E,hlb,rfl⟩:=F4 hnd (λq hq=>by rw[F];exact hko q hq) hlr;rw[F]at E;refine(g1.blk b blk' hlb (λe=>hd (Blk.ren_dead.2 e))).map (hat b E) (λ_ _=>rfl) (λq o hbr=>?_) (λt e=>Blk.ren_nil.2 e);rw[<-hI]at hbr;exact(BR.ren (by rw[F];exact hlo b blk' hlb)).2 hbr
  | none=>
   rw[hlr]at hl;simp only[I4]at hl;rw[xM]at hl;cases hl0:look H c with
   | none=>rw[hl0]at hl;cases hl
   | some y=>
    rw[hl0]at hl;simp only[fQ,aw]at hl;subst hl;have hlt:∀i,idxN C c=some i->i<ro:=by
     intro i hi;rcases aN i ro with h | h
     ·exact h
     ·exfalso;obtain⟨G,U⟩:=rl hi;rw[F]at G;obtain⟨v,hv'⟩:=uQ (hw i h G);have:=AH hnd (λq hq=>by rw[F];exact hko q hq) hv';rw[U,hlr]at this;cases this
    have hιc:O c=ι c:=by
     cases hi:idxN C c with
     | none=>exact X c hi
     | some i=>
      rw[Y c i hi];have hlti:=hlt i hi;rcases J hi with⟨G,rfl⟩ | ⟨j,rfl,U,rfl⟩
      ·exact Z i G (by omega)
      ·exfalso;rcases aN (ρ.length+j) ro with _ | h
       ·have hb0:ι (fr+j)=none:=hfr _ (by omega) (by simp only;omega);rcases hW.blk _ y hl0 (by rintro rfl;exact hd rfl)with⟨q,_,q3,_⟩ | ⟨q3,_⟩<;>(rw[hb0]at q3;cases q3)
       ·omega
    refine(hW.blk c y hl0 (by rintro rfl;exact hd rfl)).map hιc (λq hq=>hheap c q hq hlt) (λq o hbr=>BR.kill (λb E q hq=>?_) hbr) (by rintro t rfl;rfl);cases hi:idxN C b with
    | none=>rw[X b hi];exact hq
    | some i=>
     rw[Y b i hi];rcases J hi with⟨G,rfl⟩ | ⟨j,_,U,rfl⟩
     ·rw[Z i G ?_];exact hq;rcases aN i rb with h | h
      ·exact h
      ·rw[EZ.2 (BO h G)]at E;cases E
     ·rw[hfr _ (by omega) (by simp only;omega)]at hq;cases hq
 ·have G:=sG E;obtain⟨a1,a2⟩:=dW G;have hge:ro<=b:=by
   unfold roI at E;rcases aN b ro with h' | h'
   ·rw[show Nat.blt b ro=true from dc h']at E;cases E
   ·exact h'
  refine hno (getN ρ b) q ?_ hr;rw[GM (by rw[G3];exact eY.2 ⟨b,hw b hge (by omega),hold b a1⟩)];exact a2
 ·rw[<-hI]at g3;cases e with
  | returned x=>exact⟨g3.1,(VR.ren _ _ (by rw[F];exact hv)).2 g3.2⟩
  | panicked chain=>
   obtain⟨p1,x,p2,p3⟩:=g3;exact⟨p1,x,p2,(VR.ren _ _ (by rw[F];exact hv)).2 p3⟩
  | outgrown=>exact g3
def funE{A R:Type}(f rb:Nat)(b:List V->List (Nat×Blk)->Option (A×List Nat))(sh:A->Option R)(a:(α:Type)->R->(FOut->Option α)->Option α):Ent:=
 ⟨f,λα args H fr k=>ob (b args H) λp=>ob (sh p.1) λr=>a α r λo=>
  k { val:=V.ren (p.2++upTo fr o.news.length) o.val,pan:=o.pan,rd:=p.2,wr:=renH (p.2++upTo fr o.news.length) o.H,grow:=o.news.length,kill:=zb rb p.2 }⟩
def WE{A R:Type}{f m ro rb:Nat}{w:List V->List (Nat×Blk)->Option (A×List Nat)}{sh:A->Option R}{c:(α:Type)->R->(FOut->Option α)->Option α}{out:R->FOut}
  {arg:A->List V} {H0:A->List (Nat×Blk)} (i:mA P f) (j:ro<=rb) (n:ro<=m) (s:∀α r k,c α r k=k (out r))
  (o:∀l H a ρ,w l H=some (a,ρ)->ρ.length=m/\ρ.Nodup/\l=V.rens ρ (arg a)/\∀b blk,look (H0 a) b=some blk->look H (getN ρ b)=some (blk.ren ρ))
  (E:∀a,V.lts m (arg a)=true) (e:∀a b blk,look (H0 a) b=some blk->b<m/\Blk.lt m blk=true) (g:∀a,DI (H0 a) m=true) (u:∀r,∀b∈keys (out r).H,b<m+(out r).news.length)
  (p:∀r b blk,look (out r).H b=some blk->Blk.lt (m+(out r).news.length) blk=true) (I:∀r b,ro<=b->b<m+(out r).news.length->b∈keys (out r).H) (C:∀r,V.lt (m+(out r).news.length) (out r).val=true)
  (h:∀a r,sh a=some r->Fj P f (arg a) (H0 a) m ro rb (out r)):gV P (funE f rb w sh c):=by
 intro α args H fr k z y;simp only[funE]at y;obtain⟨⟨a,ρ⟩,J,q⟩:=ax y;obtain⟨r,G,d⟩:=ax q;rw[s]at d;obtain⟨x,F,K,B⟩:=o args H a ρ J;subst K;refine⟨_,d,λL t=>.inl ⟨i,(h a r G).call j n x F (E a) (e a) (g a) (u r) (p r) (I r) (C r) (λb blk v=>?_) fr⟩⟩;have D:=(e a b blk v).1;rw[t _ (o8 (by rw[x];exact D))];exact B b blk v
def RS(Q:Nat->Blk->Prop):List (Nat×Blk)->Prop
 | []=>True
 | (b,x)::l=>Q b x/\RS Q l
def Dc{Q:Nat->Blk->Prop}:∀{l:List (Nat×Blk)},RS Q l->∀b x,look l b=some x->Q b x
 | [],_,b,x,h=>by cases h
 | (c,y)::l,h,b,x,a=>by
  rw[bh]at a;split at a
  ·rename_i e;subst e;simp only[aw]at a;subst a;exact h.1
  ·exact Dc h.2 b x a
def chkH(m:Nat)(H:List (Nat×Blk)):Bool:=H.all λp=>Nat.blt p.1 m&&Blk.lt m p.2
def ub{m:Nat}:∀{H:List (Nat×Blk)},chkH m H=true->∀b x,look H b=some x->b<m/\Blk.lt m x=true
 | [],_,b,x,h=>by cases h
 | (c,y)::l,h,b,x,a=>by
  simp only[chkH,oL,aD]at h;rw[bh]at a;split at a
  ·rename_i e;subst e;simp only[aw]at a;subst a;exact⟨aR h.1.1,h.1.2⟩
  ·exact ub (H:=l) h.2 b x a
def Hf{m:Nat}{H:List (Nat×Blk)}(h:chkH m H=true):∀b∈keys H,b<m:=by
 intro b a;simp only[keys,eY]at a;obtain⟨p,hp,rfl⟩:=a;simp only[chkH,cb,aD]at h;exact aR (h p hp).1
end Go.Abs
