
import Derived.Test.YtadejcglcffgbabGreatDoorAbsO
set_option linter.unusedSimpArgs false
set_option linter.unusedVariables false
set_option linter.defProp false
namespace Go.Abs
variable {P:Program}
mutual
def V.ren(ρ:List Nat):V->V
 | .p c o=>.p (getN ρ c) o
 | .sl c o n m=>.sl (getN ρ c) o n m
 | .pr z c j o=>.pr z (getN ρ c) j o
 | .ws c=>.ws (getN ρ c)
 | .mp c=>.mp (getN ρ c)
 | .rs z c j n m=>.rs z (getN ρ c) j n m
 | .unk=>.unk
 | .fn f l=>.fn f (V.rens ρ l)
 | .ag l=>.ag (V.rens ρ l)
 | .tp l=>.tp (V.rens ρ l)
 | .it t v=>.it t (V.ren ρ v)
 | .b x=>.b x
 | .i k n=>.i k n
 | .s l=>.s l
 | .pn=>.pn
 | .sn=>.sn
 | .nf=>.nf
 | .ni=>.ni
 | .ai k n l=>.ai k n l
def V.rens(ρ:List Nat):List V->List V
 | []=>[]
 | v::l=>V.ren ρ v::V.rens ρ l
end
def Blk.ren(ρ:List Nat):Blk->Blk
 | .cells l=>.cells (V.rens ρ l)
 | .dead=>.dead
 | .rows t l=>.rows t l
 | .ints k n l=>.ints k n l
 | .iter s pos=>.iter s pos
 | .mp k l=>.mp k l
def renH(ρ:List Nat):List (Nat×Blk)->List (Nat×Blk)
 | []=>[]
 | (b,x)::l=>(getN ρ b,x.ren ρ)::renH ρ l
def iM(ι:Inj)(ρ:List Nat):Inj:=λb=>cond (Nat.blt b ρ.length) (ι (getN ρ b)) none
def iD{ι:Inj}{ρ:List Nat}{b:Nat}(h:b<ρ.length):iM ι ρ b=ι (getN ρ b):=by
 have:Nat.blt b ρ.length=true:=dl h;simp[iM,this]
def cw{ι:Inj}{ρ:List Nat}{b:Nat}{r:Option Rf}(h:iM ι ρ b=some r):b<ρ.length/\ι (getN ρ b)=some r:=by
 unfold iM at h;cases a:Nat.blt b ρ.length with
 | true=>rw[a]at h;exact⟨aJ a,h⟩
 | false=>rw[a]at h;cases h
mutual
def VR.ren{ι:Inj}{ρ:List Nat}:∀(v:V) (x:Value),V.lt ρ.length v=true->(VR ι (V.ren ρ v) x↔VR (iM ι ρ) v x)
 | .b _,_,_ | .i _ _,_,_ | .s _,_,_ | .pn,_,_ | .sn,_,_ | .nf,_,_ | .ni,_,_ | .ai _ _ _,_,_ | .unk,_,_=>by simp only[V.ren,VR]
 | .p c o,x,h | .pr z c j o,x,h | .ws c,x,h | .rs z c j n _,x,h | .mp c,x,h=>by
  simp only[V.lt]at h;simp only[V.ren,VR,iD (ι:=ι) (aJ h:c<ρ.length)]
 | .sl c o n m,x,h=>by
  simp only[V.lt]at h;simp only[V.ren,VR,iD (ι:=ι) (aJ h:c<ρ.length)]
 | .fn f l,x,h=>by
  simp only[V.lt]at h;simp only[V.ren,VR];exact mm λA=>qy λ_=>VRs.ren l A.toList h
 | .it t v,x,h=>by
  simp only[V.lt]at h;simp only[V.ren,VR];exact mm λy=>qy λ_=>VR.ren v y h
 | .ag l,x,h=>by
  simp only[V.lt]at h;simp only[V.ren,VR];exact mm λA=>qy λ_=>VRs.ren l A.toList h
 | .tp l,x,h=>by
  simp only[V.lt]at h;simp only[V.ren,VR];exact mm λA=>qy λ_=>VRs.ren l A.toList h
def VRs.ren{ι:Inj}{ρ:List Nat}:∀(l:List V) (A:List Value),V.lts ρ.length l=true->(VRs ι (V.rens ρ l) A↔VRs (iM ι ρ) l A)
 | [],_,_=>by simp[V.rens,VRs]
 | v::l,A,h=>by
  simp only[V.lts,aC]at h;simp only[V.rens,VRs];exact mm λy=>mm λC=>qy λ_=>and_congr (VR.ren v y h.1) (VRs.ren l C h.2)
end
def BR.ren{ι:Inj}{ρ:List Nat}{q:Rf}:∀{blk:Blk} {o:Obj},Blk.lt ρ.length blk=true->(BR ι q (blk.ren ρ) o↔BR (iM ι ρ) q blk o)
 | .dead,_,_ | .ints _ _ _,_,_ | .iter _ _,_,_ | .rows _ _,_,_ | .mp _ _,_,_=>by simp[Blk.ren,BR]
 | .cells l,o,h=>by
  simp only[Blk.lt]at h;simp only[Blk.ren,BR];exact mm λA=>mm λe=>mm λfr=>qy λ_=>and_congr_left λ_=>VRs.ren l A.toList h
def Blk.ren_nil{ρ:List Nat}{blk:Blk}{t:List Lf}:blk.ren ρ=.rows t []↔blk=.rows t []:=by
 cases blk<;>simp[Blk.ren]
def Blk.ren_dead{ρ:List Nat}{blk:Blk}:blk.ren ρ=.dead↔blk=.dead:=by
 cases blk<;>simp[Blk.ren]
def wN(H:List (Nat×Blk)):Nat->Bool
 | 0=>true
 | m+1=>(match look H m with | some .dead=>false | some _=>true | none=>false)&&wN H m
def qB{H:List (Nat×Blk)}:∀{m:Nat},wN H m=true->∀b,b<m->∃blk,look H b=some blk/\blk≠.dead
 | 0,_,b,d=>by omega
 | m+1,h,b,d=>by
  simp only[wN,aC]at h;by_cases a:b=m
  ·subst a;have c:=h.1;split at c
   ·cases c
   ·rename_i blk g f;exact⟨blk,f,λe=>g (by rw[e])⟩
   ·cases c
  ·exact qB h.2 b (by omega)
def kq:∀{l:List Nat} {b:Nat},b<l.length->getN l b∈l
 | [],_,h=>by simp at h
 | x::l,0,_=>by simp[getN]
 | x::l,b+1,h=>by simp only[getN];exact gN _ (kq (by simpa using h))
def nJ:∀{l:List Nat} {b c:Nat},l.Nodup->b<l.length->c<l.length->getN l b=getN l c->b=c
 | [],_,_,_,h,_,_=>by simp at h
 | x::l,0,0,_,_,_,_=>rfl
 | x::l,0,c+1,a,_,hc,h=>by
  simp only[getN]at h;have:=kq (l:=l) (b:=c) (by simpa using hc);rw[<-h]at this;exact absurd this (ud.1 a).1
 | x::l,b+1,0,a,d,_,h=>by
  simp only[getN]at h;have:=kq (l:=l) (b:=b) (by simpa using d);rw[h]at this;exact absurd this (ud.1 a).1
 | x::l,b+1,c+1,a,d,hc,h=>by
  simp only[getN]at h;have:=nJ (ud.1 a).2 (by simpa using d) (by simpa using hc) h;omega
def yk{ρ:List Nat}(m:ρ.Nodup):∀{H:List (Nat×Blk)} {c:Nat} {blk:Blk},(∀b∈keys H,b<ρ.length)->look (renH ρ H) c=some blk->∃b a,c=getN ρ b/\b<ρ.length/\look H b=some a/\blk=a.ren ρ
 | [],c,blk,_,h=>by simp[renH,look]at h
 | (b,x)::H,c,blk,g,h=>by
  simp only[renH,aO]at h;split at h
  ·rename_i e;simp only[aq]at h;exact⟨b,x,e.symm,g b (by simp[keys]),by simp[aO],h.symm⟩
  ·rename_i e;obtain⟨d,y,i,l,j,k⟩:=yk m (λq n=>g q (by simp only[keys,fb,bX];exact .inr n)) h;refine⟨d,y,i,l,?_,k⟩;rw[aO,ab (λf=>e (by rw[f,i])),j]
def xT(ρ:List Nat):∀H:List (Nat×Blk),keys (renH ρ H)=(keys H).map (getN ρ)
 | []=>rfl
 | (b,x)::H=>by
  have:=xT ρ H;simp only[keys]at this ⊢;simp[renH,this]
def yq{wr:List (Nat×Blk)}{ι:Inj}{b:Nat}(h:b∈keys wr):qS wr ι b=ι b:=by
 unfold qS;rw[ad];simp only[keys,da]at h;obtain⟨x,hx,rfl⟩:=h;exact oh.2 ⟨x,hx,by simp⟩
def wu{ρ:List Nat}:∀{H:List (Nat×Blk)} {b:Nat} {v:Blk},look H b=some v->(getN ρ b,v.ren ρ)∈renH ρ H
 | [],_,_,h=>by cases h
 | (c,x)::H,b,v,h=>by
  rw[aO]at h;simp only[renH];split at h
  ·rename_i e;subst e;simp only[aq]at h;subst h;exact xc
  ·exact gN _ (wu h)
def ta{ρ:List Nat}(g:ρ.Nodup):∀{H:List (Nat×Blk)} {b:Nat} {blk:Blk},(∀b∈keys H,b<ρ.length)->look H b=some blk->look (renH ρ H) (getN ρ b)=some (blk.ren ρ)
 | [],b,blk,_,h=>by cases h
 | (c,x)::H,b,blk,d,h=>by
  have i:b<ρ.length:=by
   refine d b ?_;have:b∈((c,x)::H).map (·.1):=by
    by_cases a:b∈((c,x)::H).map (·.1)
    ·exact a
    ·rw[mQ a]at h;cases h
   exact this
  have hc:c<ρ.length:=d c (by simp[keys]);rw[aO]at h;simp only[renH,aO];split at h
  ·rename_i e;subst e;simp only[aq]at h;subst h;rw[ad rfl]
  ·rename_i f;rw[ab (λe=>f (nJ g hc i e))];exact ta g (λq j=>d q (by simp only[keys,fb,bX];exact .inr j)) h
structure FOut where
 pan:Bool
 val:V
 H:List (Nat×Blk)
 news:List Nat:=[]
def sa(P:Program)(f:Nat)(args:List V)(H0:List (Nat×Blk))(m ro rb:Nat)(out:FOut):Prop:=
 ∀(ι0:Inj) (w:World) (c:Array Value),WR ι0 H0 m w->(∀b q,ι0 b=some (some q)->q.fz=true->b<ro)->GL (roI ι0 ro) w->VRs ι0 args c.toList->
  Calls P f c w λe w'=>∃ι:Inj,(∀b,b<m->b<rb->ι b=ι0 b)/\(∀b q,ι b=some (some q)->(∃a,ι0 b=some (some a)/\a.r=q.r)\/w.heap.size<=q.r)/\
   WR ι out.H (m+out.news.length) w'/\(∀b q,ι b=some (some q)->q.fz=true->b<ro)/\Fr (roI ι0 ro) w w'/\RetR ι { val:=out.val,pan:=out.pan } e
def NR(m c:Nat)(acc:List Nat):List Nat:=cond (Nat.blt c m) acc (cond (acc.any (Nat.beq c)) acc (acc++[c]))
mutual
def V.news(m:Nat):V->List Nat->List Nat
 | .p c _,acc | .sl c _ _ _,acc | .pr _ c _ _,acc | .ws c,acc | .rs _ c _ _ _,acc | .mp c,acc=>NR m c acc
 | .fn _ l,acc | .ag l,acc | .tp l,acc=>V.newss m l acc
 | .it _ v,acc=>V.news m v acc
 | .b _,acc | .i _ _,acc | .s _,acc | .pn,acc | .sn,acc | .nf,acc | .ni,acc | .ai _ _ _,acc | .unk,acc=>acc
def V.newss(m:Nat):List V->List Nat->List Nat
 | [],acc=>acc
 | v::l,acc=>V.newss m l (V.news m v acc)
end
def zC(m:Nat)(H:List (Nat×Blk)):List Nat->List Nat->List Nat
 | [],acc=>acc
 | b::l,acc=>match look H b with
  | some (.cells c)=>zC m H l (V.newss m c acc)
  | _=>zC m H l acc
def upTo:Nat->Nat->List Nat
 | _,0=>[]
 | b,n+1=>b::upTo (b+1) n
def gF:List Nat->Bool
 | []=>true
 | x::l=>l.all (λy=>!Nat.beq x y)&&gF l
def mi:∀{l:List Nat},gF l=true->l.Nodup
 | [],_=>List.nodup_nil
 | x::l,h=>by
  simp only[gF,aC,ch]at h;refine ud.2 ⟨λhx=>?_,mi h.2⟩;have:=h.1 x hx;simp at this
def funX{R:Type}(ws:List Nat)(m ro rb:Nat)(a:Bool->V->List (Nat×Blk)->List Nat->Option R):Bool->V->St->Option R:=
 λpan v s=>match V.newss m [v] (zC m s.H ws [])with
  | nw=>match gF nw&&(nw.all (Nat.ble m)&&(Nat.beq s.ro ro&&Nat.beq s.rb rb))with
   | true=>IE s.nb s.H (ws++nw) λH=>a pan v H nw
   | false=>none
def mB:∀(n b:Nat),(upTo b n).length=n
 | 0,_=>rfl
 | n+1,b=>by simp[upTo,mB n]
def rC:∀(n b c:Nat) (l:List Nat),c<n->getN (upTo b n++l) c=b+c
 | 0,_,_,_,h=>by omega
 | n+1,b,0,l,_=>rfl
 | n+1,b,c+1,l,h=>by
  simp only[upTo,kL,getN,rC n (b+1) c l (by omega)];omega
def kv:∀{n b c:Nat},c∈upTo b n↔b<=c/\c<b+n
 | 0,b,c=>by simp only[upTo,m6,false_iff];omega
 | n+1,b,c=>by
  simp only[upTo,bX,kv (n:=n)];omega
def nW:∀(n b:Nat),(upTo b n).Nodup
 | 0,_=>List.nodup_nil
 | n+1,b=>ud.2 ⟨λh=>by have:=kv.1 h;omega,nW n (b+1)⟩
def gU:∀(l k:List Nat) (c:Nat),getN (l++k) (l.length+c)=getN k c
 | [],k,c=>by simp
 | x::l,k,c=>by
  rw[cU,show l.length+1+c=(l.length+c)+1 by omega];simp only[kL,getN,gU l k c]
def ll:∀(l k:List Nat) (c:Nat),c<l.length->getN (l++k) c=getN l c
 | [],k,c,h=>by simp at h
 | x::l,k,0,_=>rfl
 | x::l,k,c+1,h=>by simp only[kL,getN,ll l k c (by simpa using h)]
def Lh{R:Type}{ws:List Nat}{m ro rb:Nat}{un:Bool->V->List (Nat×Blk)->List Nat->Option R}{out:R->FOut}
  (hun:∀pan v H d r,un pan v H d=some r->(out r).pan=pan/\(out r).news.length=d.length/\v=V.ren (upTo 0 m++d) (out r).val/\H=renH (upTo 0 m++d) (out r).H)
  (hv:∀r,V.lt (m+(out r).news.length) (out r).val=true) (hH:∀r b blk,look (out r).H b=some blk->Blk.lt (m+(out r).news.length) blk=true)
  (hk:∀r,∀b∈keys (out r).H,b<m+(out r).news.length)
  (J:ro<=m) {f:Nat} {args:List V} {H0:List (Nat×Blk)} {r:R} (E:wN H0 m=true) (L:D6 P f args H0 m ro (funX ws m ro rb un) r):sa P f args H0 m ro rb (out r):=by
 intro ι0 w xs hW hf0 hgl hx;refine(L ι0 w xs hW hf0 hgl hx).mono λe w' ⟨pan,u,s,ι,n,h2,h3,Z,h4f,h5,S⟩=>?_;unfold funX at n;simp only at n;split at n
 case h_2=>cases n
 rename_i k;simp only[aC,iR,ch]at k;obtain⟨I,B,G,Y⟩:=k;obtain⟨H',g1,g2⟩:=CB n;obtain⟨T,p2,W,p4⟩:=hun _ _ _ _ _ g1;generalize hnw:V.newss m [u] (zC m s.H ws [])=d at *;subst T;have c:(upTo 0 m++d).length=m+(out r).news.length:=by rw[gv,mB,p2]
 have N:(upTo 0 m++d).Nodup:=by
  refine yY.2 ⟨nW m 0,mi I,λa ha b k hab=>?_⟩;subst hab;have n:=(kv.1 ha).2;have h2:=aJ (B a k);omega
 have j:∀b,b<m->getN (upTo 0 m++d) b=b:=λb k=>by rw[rC m 0 b _ k];omega
 have A:∀b,m<=b->ι0 b=none:=by
  intro b k;cases hi:ι0 b with
  | none=>rfl
  | some q=>have:=hW.low b q hi;omega
 have g:∀{b q},iM ι (upTo 0 m++d) b=some q->b<m+(out r).news.length/\ι (getN (upTo 0 m++d) b)=some q:=λh=>by
  have:=cw h;rwa[c]at this
 refine⟨iM ι (upTo 0 m++d),λb n h1'=>?_,λb q F=>?_,⟨λb b' q q' U p Q=>?_,λb q e=>(g e).1,λb q e=>Z.dom _ _ (g e).2,λb blk O hd=>?_⟩,λb q e F=>?_,by rw[G]at h5;exact h5,?_⟩
 ·rw[iD (by rw[c];omega),j b n];obtain⟨blk,q1,q2⟩:=qB E b n;have hs:∃q,ι0 b=some q:=by
   rcases hW.blk b blk q1 q2 with⟨q,_,C,_⟩ | ⟨C,_⟩
   ·exact⟨_,C⟩
   ·exact⟨_,C⟩
  obtain⟨q,C⟩:=hs;rcases h2 b q C with h | h
  ·rw[h,C]
  ·rw[Y]at h;omega
 ·obtain⟨U,p⟩:=g F;by_cases z:b<m
  ·rw[j b z]at p;exact h3 b q p
  ·rcases h3 _ q p with⟨q',Q,_⟩ | h
   ·obtain⟨i,rfl⟩:∃i,b=m+i:=⟨b - m,by omega⟩;have D:=gU (upTo 0 m) d i;rw[mB]at D;rw[D,A _ (aJ (B _ (kq (by omega))))]at Q;cases Q
   ·exact .inr h
 ·obtain⟨a1,a2⟩:=g U;obtain⟨b1,b2⟩:=g p;exact(Z.inj _ _ _ _ a2 b2 Q).imp (nJ N (by rw[c];exact a1) (by rw[c];exact b1)) id
 ·have k:b<m+(out r).news.length:=hk r b (by
   by_cases y:b∈(out r).H.map (·.1)
   ·exact y
   ·rw[mQ y]at O;cases O)
  have M:=ta N (λq F=>by rw[c];exact hk r q F) O;rw[<-p4]at M;obtain⟨q1,_,_⟩:=g2 _ _ M;exact(Z.blk _ _ q1 (λe=>hd (Blk.ren_dead.1 e))).map (iD (by rw[c];exact k)) (λ_ _=>rfl) (λq o hbr=>(BR.ren (by rw[c];exact hH r b blk O)).1 hbr) (λt e=>Blk.ren_nil.1 e)
 ·obtain⟨U,p⟩:=g e;have:=h4f _ q p F;rw[G]at this;by_cases z:b<m
  ·rwa[j b z]at this
  ·exfalso;obtain⟨i,rfl⟩:∃i,b=m+i:=⟨b - m,by omega⟩;have D:=gU (upTo 0 m) d i;rw[mB]at D;rw[D]at this p;have hge':=aJ (B _ (kq (l:=d) (b:=i) (by omega)));have J:ro<=m:=J;omega
 ·have K:∀x,VR ι u x->VR (iM ι (upTo 0 m++d)) (out r).val x:=by
   intro x hx;rw[W]at hx;exact(VR.ren _ x (by rw[c];exact hv r)).1 hx
  cases e with
  | returned x=>exact⟨S.1,K x S.2⟩
  | panicked X=>
   obtain⟨T,x,p2,W⟩:=S;exact⟨T,x,p2,K x W⟩
  | outgrown=>exact S
def idxN:List Nat->Nat->Option Nat
 | [],_=>none
 | x::l,c=>if x=c then some 0 else(idxN l c).map (·+1)
def lP:∀{l:List Nat} {c i:Nat},idxN l c=some i->i<l.length/\getN l i=c
 | [],c,i,h=>by cases h
 | x::l,c,i,h=>by
  simp only[idxN]at h;split at h
  ·rename_i e;simp only[aq]at h;subst h;exact⟨by simp,e⟩
  ·cases a:idxN l c with
   | none=>simp[a]at h
   | some j=>
    simp only[a,ek,aq]at h;subst h;obtain⟨d,b⟩:=lP a;exact⟨by simp;omega,by simp only[getN,b]⟩
def Hu{l:List Nat}(d:l.Nodup){i:Nat}(h:i<l.length):idxN l (getN l i)=some i:=by
 cases hi:idxN l (getN l i)with
 | none=>
  exfalso;have:∀(l:List Nat) (c:Nat),c∈l->idxN l c≠none:=by
   intro l
   induction l with
   | nil=>intro c h;simp at h
   | cons x l ih=>
    intro c hc;simp only[idxN];split
    ·simp
    ·rename_i a;simp only[bX]at hc;have:=ih c (hc.resolve_left λe=>a e.symm);cases hx:idxN l c with
     | none=>exact absurd hx this
     | some _=>simp
  exact this l _ (kq h) hi
 | some j=>
  obtain⟨f,b⟩:=lP hi;rw[nJ d f h b]
def sO(rb:Nat)(ρ:List Nat):List Nat:=ρ.drop rb
def vj{ρ:List Nat}:∀{rb i:Nat},rb<=i->i<ρ.length->getN ρ i∈sO rb ρ:=by
 unfold sO
 induction ρ with
 | nil=>intro rb i _ h;simp at h
 | cons x l ih=>
  intro rb i b a;cases rb with
  | zero=>exact kq a
  | succ rb=>
   cases i with
   | zero=>omega
   | succ i=>
    simp only[B2,getN];exact ih (by omega) (by simpa using a)
def yo{ρ:List Nat}:∀{rb c:Nat},c∈sO rb ρ->∃i,rb<=i/\i<ρ.length/\getN ρ i=c:=by
 unfold sO
 induction ρ with
 | nil=>intro rb c h;simp at h
 | cons x l ih=>
  intro rb c h;cases rb with
  | zero=>
   have:∀(l:List Nat),c∈l->∃i,0<=i/\i<l.length/\getN l i=c:=by
    intro l
    induction l with
    | nil=>intro h;simp at h
    | cons y l d=>
     intro h;rcases bX.1 h with rfl | h
     ·exact⟨0,aV _,by simp,rfl⟩
     ·obtain⟨i,_,b,a⟩:=d h;exact⟨i+1,by omega,by simpa using b,a⟩
   exact this _ (by simpa using h)
  | succ rb=>
   simp only[B2]at h;obtain⟨i,e,b,a⟩:=ih h;exact⟨i+1,by omega,by simpa using b,a⟩
def vP{K:List Nat}{b:Nat}:isIn K b=true↔b∈K:=by
 unfold isIn;rw[oh];constructor
 ·rintro⟨x,hx,a⟩;rw[be a];exact hx
 ·intro h;exact⟨b,h,by simp⟩
def sa.call{f:Nat}{args:List V}{H0:List (Nat×Blk)}{m ro rb:Nat}{out:FOut}(h:sa P f args H0 m ro rb out)(hrr:ro<=rb)(hrm:ro<=m){ρ:List Nat}(hm:ρ.length=m)(hn:ρ.Nodup)
  (ha:V.lts m args=true) (hk0:∀b blk,look H0 b=some blk->b<m/\Blk.lt m blk=true) (hall:wN H0 m=true) (hko:∀b∈keys out.H,b<m+out.news.length) (hlo:∀b blk,look out.H b=some blk->Blk.lt (m+out.news.length) blk=true)
  (hw:∀b,ro<=b->b<m+out.news.length->b∈keys out.H) (hv:V.lt (m+out.news.length) out.val=true) {H:List (Nat×Blk)} (hH:∀b blk,look H0 b=some blk->look H (getN ρ b)=some (blk.ren ρ)) (fr:Nat):
  CG P f (V.rens ρ args) H fr { val:=V.ren (ρ++upTo fr out.news.length) out.val,pan:=out.pan,rd:=ρ,wr:=renH (ρ++upTo fr out.news.length) out.H,grow:=out.news.length,kill:=sO rb ρ }:=by
 subst hm;intro ι nb w xs hW hgl hfw hfr hx;have hmap:∀b,b<ρ.length->∃q,ι (getN ρ b)=some q:=by
  intro b C;obtain⟨blk,q1,q2⟩:=qB hall b C;rcases hW.blk (getN ρ b) (blk.ren ρ) (hH b blk q1) (λe=>q2 (Blk.ren_dead.1 e))with⟨q,_,q3,_⟩ | ⟨q3,_⟩
  ·exact⟨_,q3⟩
  ·exact⟨_,q3⟩
 have hWI:WR (iM ι ρ) H0 ρ.length w:=by
  refine⟨λb b' q q' M e2 e3=>?_,λb q e=>(cw e).1,λb q e=>hW.dom _ _ (cw e).2,λb blk hl hd=>?_⟩
  ·obtain⟨a1,a2⟩:=cw M;obtain⟨b1,b2⟩:=cw e2;exact(hW.inj _ _ _ _ a2 b2 e3).imp (nJ hn a1 b1) id
  ·obtain⟨c1,c2⟩:=hk0 b blk hl;exact(hW.blk (getN ρ b) (blk.ren ρ) (hH b blk hl) (λe=>hd (Blk.ren_dead.1 e))).map (iD c1) (λ_ _=>rfl) (λ_ _ hbr=>(BR.ren c2).1 hbr) (λt e=>Blk.ren_nil.1 e)
 have hf0:∀b q,iM ι ρ b=some (some q)->q.fz=true->b<ro:=by
  intro b q C Y;rcases aI b ro with h | h
  ·exact h
  ·exfalso;obtain⟨a1,a2⟩:=cw C;obtain⟨v,hv'⟩:=nS (hw b h (by omega));have hkey:(getN (ρ++upTo fr out.news.length) b,v.ren (ρ++upTo fr out.news.length))∈renH (ρ++upTo fr out.news.length) out.H:=wu hv';have:=hfw _ hkey q (by simp only;rw[ll _ _ _ a1];exact a2);rw[this]at Y;cases Y
 have hgl0:GL (roI (iM ι ρ) ro) w:=hgl.mono λb q C=>by
  obtain⟨a1,a2⟩:=cw (rB C);obtain⟨v,hv'⟩:=nS (hw b (NK C) (by omega));have hkey:(getN (ρ++upTo fr out.news.length) b,v.ren (ρ++upTo fr out.news.length))∈renH (ρ++upTo fr out.news.length) out.H:=wu hv';rw[ll _ _ _ a1]at hkey;exact .inl ⟨_,q,by rw[yq (da.2 ⟨_,hkey,rfl⟩)];exact a2,rfl⟩
 refine(h (iM ι ρ) w xs hWI hf0 hgl0 ((VRs.ren args _ ha).1 hx)).mono λe w' ⟨X,d1,d2,g1,g1f,g2,g3⟩=>?_;have hsz:=g2.size;generalize hg:out.news.length=g at *;generalize hρ:ρ++upTo fr g=A at *;have E:A.length=ρ.length+g:=by rw[<-hρ,gv,mB]
 have Z:∀b,b<ρ.length->getN A b=getN ρ b:=λb C=>by rw[<-hρ,ll _ _ _ C]
 have hnew:∀i,i<g->getN A (ρ.length+i)=fr+i:=λi hi=>by
  rw[<-hρ,gU];have:=rC g fr i [] hi;rwa[vv]at this
 have hnd:A.Nodup:=by
  rw[<-hρ];refine yY.2 ⟨hn,nW g fr,λa ha b C hab=>?_⟩;subst hab;obtain⟨F,O⟩:=kv.1 C;obtain⟨i,_,hi1,hi2⟩:=yo (rb:=0) (ρ:=ρ) (c:=a) (by simpa[sO]using ha);obtain⟨q,Y⟩:=hmap i hi1;rw[hi2,hfr a F O]at Y;cases Y
 have hidx:∀{b},b<ρ.length+g->idxN A (getN A b)=some b:=λC=>Hu hnd (by rw[E];exact C);have hι':∃J:Inj,(∀c i,idxN A c=some i->J c=X i)/\(∀c,idxN A c=none->J c=ι c):=
  ⟨λc=>match idxN A c with | some i=>X i | none=>ι c,λc i hc=>by simp only[hc],λc hc=>by simp only[hc]⟩
 obtain⟨J,Q,U⟩:=hι';have hat:∀b,b<ρ.length+g->J (getN A b)=X b:=λb C=>Q _ _ (hidx C);have hI:iM J A=X:=by
  funext b;rcases aI b (ρ.length+g)with C | C
  ·rw[iD (by rw[E];exact C),hat b C]
  ·have M:iM J A b=none:=by
    cases hc:iM J A b with
    | none=>rfl
    | some q=>have:=(cw hc).1;omega
   have e2:X b=none:=by
    cases hc:X b with
    | none=>rfl
    | some q=>have:=g1.low b q hc;omega
   rw[M,e2]
 have W:∀b,b<ρ.length->b<rb->X b=ι (getN ρ b):=λb F O=>by rw[d1 b F O,iD F]
 have G:∀{c i},idxN A c=some i->(i<ρ.length/\c=getN ρ i)\/(∃j,i=ρ.length+j/\j<g/\c=fr+j):=by
  intro c i hi;obtain⟨F,O⟩:=lP hi;rcases aI i ρ.length with h | h
  ·exact .inl ⟨h,by rw[<-O,Z i h]⟩
  ·refine .inr ⟨i - ρ.length,by omega,by omega,?_⟩;rw[<-O,<-hnew (i - ρ.length) (by omega)];congr 1;omega
 have hheap:∀c q,ι c=some (some q)->(∀i,idxN A c=some i->i<ro)->w'.heap[q.r]?=w.heap[q.r]?:=by
  intro c q hc hno;refine g2.blk q.r (hW.dom c q hc) λb p C hr=>?_;have h0:=rB C;obtain⟨a1,a2⟩:=cw h0;have hge:ro<=b:=by
   unfold roI at C;rcases aI b ro with h' | h'
   ·rw[show Nat.blt b ro=true from dl h']at C;cases C
   ·exact h'
  have hcb:c=getN ρ b:=(hW.inj _ _ _ _ hc a2 hr.symm).resolve_right λhh=>by have:=hf0 b p h0 hh.2;omega
  have hlt:=hno b (by rw[hcb,<-Z b a1];exact hidx (by omega));unfold roI at C;rw[show Nat.blt b ro=true from dl hlt]at C;cases C
 refine⟨J,λc hk hc=>?_,λc q hk hc=>?_,λc q F O hc=>?_,λc q hc Y=>?_,⟨λc c' q q' M e2 e3=>?_,λc q hc=>?_,λc q hc=>?_,λc blk hl hd=>?_⟩,⟨g2.os,g2.tape,g2.output,g2.size,λk hk hno=>g2.blk k hk λb q C hr=>?_⟩,?_⟩
 ·cases hi:idxN A c with
  | none=>exact U c hi
  | some i=>
   rw[Q c i hi];rcases G hi with⟨F,rfl⟩ | ⟨j,_,O,rfl⟩
   ·refine W i F ?_;rcases aI i rb with h | h
    ·exact h
    ·rw[vP.2 (vj h F)]at hk;cases hk
   ·simp only at hc;omega
 ·obtain⟨i,F,O,rfl⟩:=yo (vP.1 hk);have:J (getN ρ i)=X i:=by rw[<-Z i O];exact hat i (by omega)
  rw[this]at hc;rcases d2 i q hc with⟨q',M,e2⟩ | h
  ·exact .inl ⟨q',(cw M).2,e2⟩
  ·exact .inr h
 ·simp only at O;have hcj:c=getN A (ρ.length+(c - fr)):=by rw[hnew _ (by omega)];omega
  rw[hcj,hat _ (by omega)]at hc;rcases d2 _ q hc with⟨q',M,_⟩ | h
  ·have:=(cw M).1;omega
  ·exact h
 ·cases hi:idxN A c with
  | none=>rw[U c hi]at hc;exact hc
  | some i=>
   rw[Q c i hi]at hc;have hlt:=g1f i q hc Y;rcases G hi with⟨F,rfl⟩ | ⟨j,rfl,O,rfl⟩
   ·rw[<-W i F (by omega)];exact hc
   ·exfalso;rcases d2 _ q hc with⟨p,M,_⟩ | _
    ·have:=(cw M).1;omega
    ·omega
 ·have far:∀{c c' i q q'},idxN A c=some i->idxN A c'=none->X i=some (some q)->ι c'=some (some q')->q.r=q'.r->q.fz=true/\q'.fz=true:=by
   intro c c' i q q' F O h3 h4 h5;rcases d2 i q h3 with⟨p,M,e2⟩ | h
   ·obtain⟨a1,a2⟩:=cw M;rcases hW.inj _ _ _ _ a2 h4 (e2.trans h5)with this | ⟨z1,z2⟩
    ·rw[<-this,<-Z i a1,hidx (by omega)]at O;cases O
    ·have hlt:=hf0 i p M z1;have:=d1 i a1 (by omega);rw[h3,M]at this;simp only[aq]at this;exact⟨by rw[this];exact z1,z2⟩
   ·have:=hW.dom c' q' h4;omega
  cases hi:idxN A c with
  | none=>
   rw[U c hi]at M;cases hi':idxN A c' with
   | none=>rw[U c' hi']at e2;exact hW.inj _ _ _ _ M e2 e3
   | some i'=>rw[Q c' i' hi']at e2;exact .inr (far hi' hi e2 M e3.symm).symm
  | some i=>
   rw[Q c i hi]at M;cases hi':idxN A c' with
   | none=>rw[U c' hi']at e2;exact .inr (far hi hi' M e2 e3)
   | some i'=>
    rw[Q c' i' hi']at e2;refine(g1.inj _ _ _ _ M e2 e3).imp (λthis=>?_) id;rw[<-(lP hi).2,<-(lP hi').2,this]
 ·simp only;cases hi:idxN A c with
  | none=>
   rw[U c hi]at hc;have:=hW.low c q hc;omega
  | some i=>
   rcases G hi with⟨F,rfl⟩ | ⟨j,_,O,rfl⟩
   ·obtain⟨p,hp⟩:=hmap i F;have:=hW.low _ _ hp;omega
   ·omega
 ·cases hi:idxN A c with
  | none=>
   rw[U c hi]at hc;have:=hW.dom c q hc;omega
  | some i=>rw[Q c i hi]at hc;exact g1.dom i q hc
 ·simp only at hl;rw[mH]at hl;cases hlr:look (renH A out.H) c with
  | some x=>
   rw[hlr]at hl;simp only[Option.some_or,aq]at hl;subst hl;obtain⟨b,blk',rfl,C,hlb,rfl⟩:=yk hnd (λq Y=>by rw[E];exact hko q Y) hlr;rw[E]at C;refine(g1.blk b blk' hlb (λe=>hd (Blk.ren_dead.2 e))).map (hat b C) (λ_ _=>rfl) (λq o hbr=>?_) (λt e=>Blk.ren_nil.2 e);rw[<-hI]at hbr;exact(BR.ren (by rw[E];exact hlo b blk' hlb)).2 hbr
  | none=>
   rw[hlr]at hl;simp only[zS]at hl;rw[qF]at hl;cases hl0:look H c with
   | none=>rw[hl0]at hl;cases hl
   | some y=>
    rw[hl0]at hl;simp only[ek,aq]at hl;subst hl;have hlt:∀i,idxN A c=some i->i<ro:=by
     intro i hi;rcases aI i ro with h | h
     ·exact h
     ·exfalso;obtain⟨F,O⟩:=lP hi;rw[E]at F;obtain⟨v,hv'⟩:=nS (hw i h F);have:=ta hnd (λq Y=>by rw[E];exact hko q Y) hv';rw[O,hlr]at this;cases this
    have hιc:J c=ι c:=by
     cases hi:idxN A c with
     | none=>exact U c hi
     | some i=>
      rw[Q c i hi];have hlti:=hlt i hi;rcases G hi with⟨F,rfl⟩ | ⟨j,rfl,O,rfl⟩
      ·exact W i F (by omega)
      ·exfalso;rcases aI (ρ.length+j) ro with _ | h
       ·have hb0:ι (fr+j)=none:=hfr _ (by omega) (by simp only;omega);rcases hW.blk _ y hl0 (by rintro rfl;exact hd rfl)with⟨q,_,q3,_⟩ | ⟨q3,_⟩<;>(rw[hb0]at q3;cases q3)
       ·omega
    refine(hW.blk c y hl0 (by rintro rfl;exact hd rfl)).map hιc (λq Y=>hheap c q Y hlt) (λq o hbr=>BR.kill (λb C q Y=>?_) hbr) (by rintro t rfl;rfl);cases hi:idxN A b with
    | none=>rw[U b hi];exact Y
    | some i=>
     rw[Q b i hi];rcases G hi with⟨F,rfl⟩ | ⟨j,_,O,rfl⟩
     ·rw[W i F ?_];exact Y;rcases aI i rb with h | h
      ·exact h
      ·rw[vP.2 (vj h F)]at C;cases C
     ·rw[hfr _ (by omega) (by simp only;omega)]at Y;cases Y
 ·have F:=rB C;obtain⟨a1,a2⟩:=cw F;have hge:ro<=b:=by
   unfold roI at C;rcases aI b ro with h' | h'
   ·rw[show Nat.blt b ro=true from dl h']at C;cases C
   ·exact h'
  refine hno (getN ρ b) q ?_ hr;rw[yq (by rw[xT];exact da.2 ⟨b,hw b hge (by omega),Z b a1⟩)];exact a2
 ·rw[<-hI]at g3;cases e with
  | returned x=>exact⟨g3.1,(VR.ren _ _ (by rw[E];exact hv)).2 g3.2⟩
  | panicked chain=>
   obtain⟨p1,x,p2,p3⟩:=g3;exact⟨p1,x,p2,(VR.ren _ _ (by rw[E];exact hv)).2 p3⟩
  | outgrown=>exact g3
def funE{A R:Type}(f rb:Nat)(b:List V->List (Nat×Blk)->Option (A×List Nat))(sh:A->Option R)(a:(α:Type)->R->(FOut->Option α)->Option α):Ent:=
 ⟨f,λα args H fr k=>ob (b args H) λp=>ob (sh p.1) λr=>a α r λo=>
  k { val:=V.ren (p.2++upTo fr o.news.length) o.val,pan:=o.pan,rd:=p.2,wr:=renH (p.2++upTo fr o.news.length) o.H,grow:=o.news.length,kill:=sO rb p.2 }⟩
def K4{A R:Type}{f m ro rb:Nat}{w:List V->List (Nat×Blk)->Option (A×List Nat)}{sh:A->Option R}{c:(α:Type)->R->(FOut->Option α)->Option α}{out:R->FOut}
  {arg:A->List V} {H0:A->List (Nat×Blk)} (i:pg P f) (u:ro<=rb) (t:ro<=m) (j:∀α r k,c α r k=k (out r))
  (s:∀l H a ρ,w l H=some (a,ρ)->ρ.length=m/\ρ.Nodup/\l=V.rens ρ (arg a)/\∀b blk,look (H0 a) b=some blk->look H (getN ρ b)=some (blk.ren ρ))
  (C:∀a,V.lts m (arg a)=true) (e:∀a b blk,look (H0 a) b=some blk->b<m/\Blk.lt m blk=true) (d:∀a,wN (H0 a) m=true) (q:∀r,∀b∈keys (out r).H,b<m+(out r).news.length)
  (p:∀r b blk,look (out r).H b=some blk->Blk.lt (m+(out r).news.length) blk=true) (G:∀r b,ro<=b->b<m+(out r).news.length->b∈keys (out r).H) (F:∀r,V.lt (m+(out r).news.length) (out r).val=true)
  (h:∀a r,sh a=some r->sa P f (arg a) (H0 a) m ro rb (out r)):ib P (funE f rb w sh c):=by
 intro α args H fr k z y;simp only[funE]at y;obtain⟨⟨a,ρ⟩,J,n⟩:=av y;obtain⟨r,E,g⟩:=av n;rw[j]at g;obtain⟨x,D,K,B⟩:=s args H a ρ J;subst K;refine⟨_,g,λL o=>.inl ⟨i,(h a r E).call u t x D (C a) (e a) (d a) (q r) (p r) (G r) (F r) (λb blk v=>?_) fr⟩⟩;have I:=(e a b blk v).1;rw[o _ (kq (by rw[x];exact I))];exact B b blk v
def Hw(Q:Nat->Blk->Prop):List (Nat×Blk)->Prop
 | []=>True
 | (b,x)::l=>Q b x/\Hw Q l
def uD{Q:Nat->Blk->Prop}:∀{l:List (Nat×Blk)},Hw Q l->∀b x,look l b=some x->Q b x
 | [],_,b,x,h=>by cases h
 | (c,y)::l,h,b,x,a=>by
  rw[aO]at a;split at a
  ·rename_i e;subst e;simp only[aq]at a;subst a;exact h.1
  ·exact uD h.2 b x a
def chkH(m:Nat)(H:List (Nat×Blk)):Bool:=H.all λp=>Nat.blt p.1 m&&Blk.lt m p.2
def nq{m:Nat}:∀{H:List (Nat×Blk)},chkH m H=true->∀b x,look H b=some x->b<m/\Blk.lt m x=true
 | [],_,b,x,h=>by cases h
 | (c,y)::l,h,b,x,a=>by
  simp only[chkH,lw,aC]at h;rw[aO]at a;split at a
  ·rename_i e;subst e;simp only[aq]at a;subst a;exact⟨aJ h.1.1,h.1.2⟩
  ·exact nq (H:=l) h.2 b x a
def yz{m:Nat}{H:List (Nat×Blk)}(h:chkH m H=true):∀b∈keys H,b<m:=by
 intro b a;simp only[keys,da]at a;obtain⟨p,hp,rfl⟩:=a;simp only[chkH,ch,aC]at h;exact aJ (h p hp).1
end Go.Abs
