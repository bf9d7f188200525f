
import Derived.Test.YtadejcglcffgbacGreatDoorAbsO
set_option linter.unusedSimpArgs false
set_option linter.unusedVariables false
set_option linter.defProp false
namespace Go.Abs
variable {P:Program}
mutual
def V.ren(ρ:List Nat):V->V
 | .p c o=>.p (getN ρ c) o
 | .sl c o n m=>.sl (getN ρ c) o n m
 | .pr z c j o=>.pr z (getN ρ c) j o
 | .ws c=>.ws (getN ρ c)
 | .mp c=>.mp (getN ρ c)
 | .rs z c j n m=>.rs z (getN ρ c) j n m
 | .unk=>.unk
 | .fn f l=>.fn f (V.rens ρ l)
 | .ag l=>.ag (V.rens ρ l)
 | .tp l=>.tp (V.rens ρ l)
 | .it t v=>.it t (V.ren ρ v)
 | .b x=>.b x
 | .i k n=>.i k n
 | .s l=>.s l
 | .pn=>.pn
 | .sn=>.sn
 | .nf=>.nf
 | .ni=>.ni
 | .ai k n l=>.ai k n l
def V.rens(ρ:List Nat):List V->List V
 | []=>[]
 | v::l=>V.ren ρ v::V.rens ρ l
end
def Blk.ren(ρ:List Nat):Blk->Blk
 | .cells l=>.cells (V.rens ρ l)
 | .dead=>.dead
 | .rows t l=>.rows t l
 | .ints k n l=>.ints k n l
 | .iter s pos=>.iter s pos
 | .mp k l=>.mp k l
def renH(ρ:List Nat):List (Nat×Blk)->List (Nat×Blk)
 | []=>[]
 | (b,x)::l=>(getN ρ b,x.ren ρ)::renH ρ l
def ib(ι:Inj)(ρ:List Nat):Inj:=λb=>cond (Nat.blt b ρ.length) (ι (getN ρ b)) none
def ic{ι:Inj}{ρ:List Nat}{b:Nat}(h:b<ρ.length):ib ι ρ b=ι (getN ρ b):=by
 have:Nat.blt b ρ.length=true:=dA h;simp[ib,this]
def bO{ι:Inj}{ρ:List Nat}{b:Nat}{r:Option Rf}(h:ib ι ρ b=some r):b<ρ.length/\ι (getN ρ b)=some r:=by
 unfold ib at h;cases a:Nat.blt b ρ.length with
 | true=>rw[a]at h;exact⟨az a,h⟩
 | false=>rw[a]at h;cases h
mutual
def VR.ren{ι:Inj}{ρ:List Nat}:∀(v:V) (x:Value),V.lt ρ.length v=true->(VR ι (V.ren ρ v) x↔VR (ib ι ρ) v x)
 | .b _,_,_ | .i _ _,_,_ | .s _,_,_ | .pn,_,_ | .sn,_,_ | .nf,_,_ | .ni,_,_ | .ai _ _ _,_,_ | .unk,_,_=>by simp only[V.ren,VR]
 | .p c o,x,h | .pr z c j o,x,h | .ws c,x,h | .rs z c j n _,x,h | .mp c,x,h=>by
  simp only[V.lt]at h;simp only[V.ren,VR,ic (ι:=ι) (az h:c<ρ.length)]
 | .sl c o n m,x,h=>by
  simp only[V.lt]at h;simp only[V.ren,VR,ic (ι:=ι) (az h:c<ρ.length)]
 | .fn f l,x,h=>by
  simp only[V.lt]at h;simp only[V.ren,VR];exact lr λA=>pV λ_=>VRs.ren l A.toList h
 | .it t v,x,h=>by
  simp only[V.lt]at h;simp only[V.ren,VR];exact lr λy=>pV λ_=>VR.ren v y h
 | .ag l,x,h=>by
  simp only[V.lt]at h;simp only[V.ren,VR];exact lr λA=>pV λ_=>VRs.ren l A.toList h
 | .tp l,x,h=>by
  simp only[V.lt]at h;simp only[V.ren,VR];exact lr λA=>pV λ_=>VRs.ren l A.toList h
def VRs.ren{ι:Inj}{ρ:List Nat}:∀(l:List V) (A:List Value),V.lts ρ.length l=true->(VRs ι (V.rens ρ l) A↔VRs (ib ι ρ) l A)
 | [],_,_=>by simp[V.rens,VRs]
 | v::l,A,h=>by
  simp only[V.lts,aw]at h;simp only[V.rens,VRs];exact lr λy=>lr λC=>pV λ_=>and_congr (VR.ren v y h.1) (VRs.ren l C h.2)
end
def BR.ren{ι:Inj}{ρ:List Nat}{q:Rf}:∀{blk:Blk} {o:Obj},Blk.lt ρ.length blk=true->(BR ι q (blk.ren ρ) o↔BR (ib ι ρ) q blk o)
 | .dead,_,_ | .ints _ _ _,_,_ | .iter _ _,_,_ | .rows _ _,_,_ | .mp _ _,_,_=>by simp[Blk.ren,BR]
 | .cells l,o,h=>by
  simp only[Blk.lt]at h;simp only[Blk.ren,BR];exact lr λA=>lr λe=>lr λfr=>pV λ_=>and_congr_left λ_=>VRs.ren l A.toList h
def Blk.ren_nil{ρ:List Nat}{blk:Blk}{t:List Lf}:blk.ren ρ=.rows t []↔blk=.rows t []:=by
 cases blk<;>simp[Blk.ren]
def Blk.ren_dead{ρ:List Nat}{blk:Blk}:blk.ren ρ=.dead↔blk=.dead:=by
 cases blk<;>simp[Blk.ren]
def vC(H:List (Nat×Blk)):Nat->Bool
 | 0=>true
 | m+1=>(match look H m with | some .dead=>false | some _=>true | none=>false)&&vC H m
def qe{H:List (Nat×Blk)}:∀{m:Nat},vC H m=true->∀b,b<m->∃blk,look H b=some blk/\blk≠.dead
 | 0,_,b,d=>by omega
 | m+1,h,b,d=>by
  simp only[vC,aw]at h;by_cases a:b=m
  ·subst a;have h1:=h.1;split at h1
   ·cases h1
   ·rename_i blk c f;exact⟨blk,f,λe=>c (by rw[e])⟩
   ·cases h1
  ·exact qe h.2 b (by omega)
def jP:∀{l:List Nat} {b:Nat},b<l.length->getN l b∈l
 | [],_,h=>by simp at h
 | x::l,0,_=>by simp[getN]
 | x::l,b+1,h=>by simp only[getN];exact fE _ (jP (by simpa using h))
def nh:∀{l:List Nat} {b c:Nat},l.Nodup->b<l.length->c<l.length->getN l b=getN l c->b=c
 | [],_,_,_,h,_,_=>by simp at h
 | x::l,0,0,_,_,_,_=>rfl
 | x::l,0,c+1,a,_,hc,h=>by
  simp only[getN]at h;have:=jP (l:=l) (b:=c) (by simpa using hc);rw[<-h]at this;exact absurd this (sK.1 a).1
 | x::l,b+1,0,a,d,_,h=>by
  simp only[getN]at h;have:=jP (l:=l) (b:=b) (by simpa using d);rw[h]at this;exact absurd this (sK.1 a).1
 | x::l,b+1,c+1,a,d,hc,h=>by
  simp only[getN]at h;have:=nh (sK.1 a).2 (by simpa using d) (by simpa using hc) h;omega
def ym{ρ:List Nat}(i:ρ.Nodup):∀{H:List (Nat×Blk)} {c:Nat} {blk:Blk},(∀b∈keys H,b<ρ.length)->look (renH ρ H) c=some blk->∃b a,c=getN ρ b/\b<ρ.length/\look H b=some a/\blk=a.ren ρ
 | [],c,blk,_,h=>by simp[renH,look]at h
 | (b,x)::H,c,blk,g,h=>by
  simp only[renH,aG]at h;split at h
  ·rename_i e;simp only[af]at h;exact⟨b,x,e.symm,g b (by simp[keys]),by simp[aG],h.symm⟩
  ·rename_i e;obtain⟨d,y,h1,h2,l,j⟩:=ym i (λq k=>g q (by simp only[keys,cU,bv];exact .inr k)) h;refine⟨d,y,h1,h2,?_,j⟩;rw[aG,ab (λf=>e (by rw[f,h1])),l]
def xH(ρ:List Nat):∀H:List (Nat×Blk),keys (renH ρ H)=(keys H).map (getN ρ)
 | []=>rfl
 | (b,x)::H=>by
  have:=xH ρ H;simp only[keys]at this ⊢;simp[renH,this]
def xy{wr:List (Nat×Blk)}{ι:Inj}{b:Nat}(h:b∈keys wr):qJ wr ι b=ι b:=by
 unfold qJ;rw[ad];simp only[keys,ch]at h;obtain⟨x,a,rfl⟩:=h;exact mf.2 ⟨x,a,by simp⟩
def wu{ρ:List Nat}:∀{H:List (Nat×Blk)} {b:Nat} {v:Blk},look H b=some v->(getN ρ b,v.ren ρ)∈renH ρ H
 | [],_,_,h=>by cases h
 | (c,x)::H,b,v,h=>by
  rw[aG]at h;simp only[renH];split at h
  ·rename_i e;subst e;simp only[af]at h;subst h;exact kP
  ·exact fE _ (wu h)
def tc{ρ:List Nat}(g:ρ.Nodup):∀{H:List (Nat×Blk)} {b:Nat} {blk:Blk},(∀b∈keys H,b<ρ.length)->look H b=some blk->look (renH ρ H) (getN ρ b)=some (blk.ren ρ)
 | [],b,blk,_,h=>by cases h
 | (c,x)::H,b,blk,d,h=>by
  have i:b<ρ.length:=by
   refine d b ?_;have:b∈((c,x)::H).map (·.1):=by
    by_cases a:b∈((c,x)::H).map (·.1)
    ·exact a
    ·rw[mJ a]at h;cases h
   exact this
  have hc:c<ρ.length:=d c (by simp[keys]);rw[aG]at h;simp only[renH,aG];split at h
  ·rename_i e;subst e;simp only[af]at h;subst h;rw[ad rfl]
  ·rename_i f;rw[ab (λe=>f (nh g hc i e))];exact tc g (λq j=>d q (by simp only[keys,cU,bv];exact .inr j)) h
structure FOut where
 pan:Bool
 val:V
 H:List (Nat×Blk)
 news:List Nat:=[]
def B0(P:Program)(f:Nat)(args:List V)(H0:List (Nat×Blk))(m ro rb:Nat)(out:FOut):Prop:=
 ∀(ι0:Inj) (w:World) (c:Array Value),WR ι0 H0 m w->(∀b q,ι0 b=some (some q)->q.fz=true->b<ro)->GL (roI ι0 ro) w->VRs ι0 args c.toList->
  Calls P f c w λe w'=>∃ι:Inj,(∀b,b<m->b<rb->ι b=ι0 b)/\(∀b q,ι b=some (some q)->(∃a,ι0 b=some (some a)/\a.r=q.r)\/w.heap.size<=q.r)/\
   WR ι out.H (m+out.news.length) w'/\(∀b q,ι b=some (some q)->q.fz=true->b<ro)/\Fr (roI ι0 ro) w w'/\RetR ι { val:=out.val,pan:=out.pan } e
def MC(m c:Nat)(a:List Nat):List Nat:=cond (Nat.blt c m) a (cond (a.any (Nat.beq c)) a (a++[c]))
mutual
def V.news(m:Nat):V->List Nat->List Nat
 | .p c _,A | .sl c _ _ _,A | .pr _ c _ _,A | .ws c,A | .rs _ c _ _ _,A | .mp c,A=>MC m c A
 | .fn _ l,A | .ag l,A | .tp l,A=>V.newss m l A
 | .it _ v,A=>V.news m v A
 | .b _,A | .i _ _,A | .s _,A | .pn,A | .sn,A | .nf,A | .ni,A | .ai _ _ _,A | .unk,A=>A
def V.newss(m:Nat):List V->List Nat->List Nat
 | [],A=>A
 | v::l,A=>V.newss m l (V.news m v A)
end
def zA(m:Nat)(H:List (Nat×Blk)):List Nat->List Nat->List Nat
 | [],a=>a
 | b::l,a=>match look H b with
  | some (.cells c)=>zA m H l (V.newss m c a)
  | _=>zA m H l a
def upTo:Nat->Nat->List Nat
 | _,0=>[]
 | b,n+1=>b::upTo (b+1) n
def fJ:List Nat->Bool
 | []=>true
 | x::l=>l.all (λy=>!Nat.beq x y)&&fJ l
def l7:∀{l:List Nat},fJ l=true->l.Nodup
 | [],_=>List.nodup_nil
 | x::l,h=>by
  simp only[fJ,aw,ct]at h;refine sK.2 ⟨λa=>?_,l7 h.2⟩;have:=h.1 x a;simp at this
def funX{R:Type}(ws:List Nat)(m ro rb:Nat)(a:Bool->V->List (Nat×Blk)->List Nat->Option R):Bool->V->St->Option R:=
 λpan v s=>match V.newss m [v] (zA m s.H ws [])with
  | nw=>match fJ nw&&(nw.all (Nat.ble m)&&(Nat.beq s.ro ro&&Nat.beq s.rb rb))with
   | true=>HK s.nb s.H (ws++nw) λH=>a pan v H nw
   | false=>none
def lR:∀(n b:Nat),(upTo b n).length=n
 | 0,_=>rfl
 | n+1,b=>by simp[upTo,lR n]
def rI:∀(n b c:Nat) (l:List Nat),c<n->getN (upTo b n++l) c=b+c
 | 0,_,_,_,h=>by omega
 | n+1,b,0,l,_=>rfl
 | n+1,b,c+1,l,h=>by
  simp only[upTo,jX,getN,rI n (b+1) c l (by omega)];omega
def jG:∀{n b c:Nat},c∈upTo b n↔b<=c/\c<b+n
 | 0,b,c=>by simp only[upTo,n8,false_iff];omega
 | n+1,b,c=>by
  simp only[upTo,bv,jG (n:=n)];omega
def mZ:∀(n b:Nat),(upTo b n).Nodup
 | 0,_=>List.nodup_nil
 | n+1,b=>sK.2 ⟨λh=>by have:=jG.1 h;omega,mZ n (b+1)⟩
def gm:∀(l k:List Nat) (c:Nat),getN (l++k) (l.length+c)=getN k c
 | [],k,c=>by simp
 | x::l,k,c=>by
  rw[bp,show l.length+1+c=(l.length+c)+1 by omega];simp only[jX,getN,gm l k c]
def kz:∀(l k:List Nat) (c:Nat),c<l.length->getN (l++k) c=getN l c
 | [],k,c,h=>by simp at h
 | x::l,k,0,_=>rfl
 | x::l,k,c+1,h=>by simp only[jX,getN,kz l k c (by simpa using h)]
def Kx{R:Type}{ws:List Nat}{m ro rb:Nat}{un:Bool->V->List (Nat×Blk)->List Nat->Option R}{out:R->FOut}
  (hun:∀pan v H d r,un pan v H d=some r->(out r).pan=pan/\(out r).news.length=d.length/\v=V.ren (upTo 0 m++d) (out r).val/\H=renH (upTo 0 m++d) (out r).H)
  (hv:∀r,V.lt (m+(out r).news.length) (out r).val=true) (hH:∀r b blk,look (out r).H b=some blk->Blk.lt (m+(out r).news.length) blk=true)
  (hk:∀r,∀b∈keys (out r).H,b<m+(out r).news.length)
  (K:ro<=m) {f:Nat} {args:List V} {H0:List (Nat×Blk)} {r:R} (E:vC H0 m=true) (F:vZ P f args H0 m ro (funX ws m ro rb un) r):B0 P f args H0 m ro rb (out r):=by
 intro ι0 w xs hW W U S;refine(F ι0 w xs hW W U S).mono λe w' ⟨pan,u,s,ι,h1,h2,h3,h4,T,h5,O⟩=>?_;unfold funX at h1;simp only at h1;split at h1
 case h_2=>cases h1
 rename_i k;simp only[aw,fP,ct]at k;obtain⟨C,z,D,hrb⟩:=k;obtain⟨H',g1,g2⟩:=A1 h1;obtain⟨Y,p2,p3,p4⟩:=hun _ _ _ _ _ g1;generalize hnw:V.newss m [u] (zA m s.H ws [])=d at *;subst Y;have c:(upTo 0 m++d).length=m+(out r).news.length:=by rw[cR,lR,p2]
 have J:(upTo 0 m++d).Nodup:=by
  refine zm.2 ⟨mZ m 0,l7 C,λa ha b k hab=>?_⟩;subst hab;have h1:=(jG.1 ha).2;have h2:=az (z a k);omega
 have j:∀b,b<m->getN (upTo 0 m++d) b=b:=λb k=>by rw[rI m 0 b _ k];omega
 have y:∀b,m<=b->ι0 b=none:=by
  intro b k;cases hi:ι0 b with
  | none=>rfl
  | some q=>have:=hW.low b q hi;omega
 have g:∀{b q},ib ι (upTo 0 m++d) b=some q->b<m+(out r).news.length/\ι (getN (upTo 0 m++d) b)=some q:=λh=>by
  have:=bO h;rwa[c]at this
 refine⟨ib ι (upTo 0 m++d),λb h1 h1'=>?_,λb q M=>?_,⟨λb b' q q' e1 n Q=>?_,λb q e=>(g e).1,λb q e=>h4.dom _ _ (g e).2,λb blk N hd=>?_⟩,λb q e M=>?_,by rw[D]at h5;exact h5,?_⟩
 ·rw[ic (by rw[c];omega),j b h1];obtain⟨blk,X,q2⟩:=qe E b h1;have hs:∃q,ι0 b=some q:=by
   rcases hW.blk b blk X q2 with⟨q,_,B,_⟩ | ⟨B,_⟩
   ·exact⟨_,B⟩
   ·exact⟨_,B⟩
  obtain⟨q,B⟩:=hs;rcases h2 b q B with h | h
  ·rw[h,B]
  ·rw[hrb]at h;omega
 ·obtain⟨e1,n⟩:=g M;by_cases A:b<m
  ·rw[j b A]at n;exact h3 b q n
  ·rcases h3 _ q n with⟨q',Q,_⟩ | h
   ·obtain⟨i,rfl⟩:∃i,b=m+i:=⟨b - m,by omega⟩;have L:=gm (upTo 0 m) d i;rw[lR]at L;rw[L,y _ (az (z _ (jP (by omega))))]at Q;cases Q
   ·exact .inr h
 ·obtain⟨a1,a2⟩:=g e1;obtain⟨b1,b2⟩:=g n;exact(h4.inj _ _ _ _ a2 b2 Q).imp (nh J (by rw[c];exact a1) (by rw[c];exact b1)) id
 ·have k:b<m+(out r).news.length:=hk r b (by
   by_cases p:b∈(out r).H.map (·.1)
   ·exact p
   ·rw[mJ p]at N;cases N)
  have G:=tc J (λq M=>by rw[c];exact hk r q M) N;rw[<-p4]at G;obtain⟨X,_,_⟩:=g2 _ _ G;exact(h4.blk _ _ X (λe=>hd (Blk.ren_dead.1 e))).map (ic (by rw[c];exact k)) (λ_ _=>rfl) (λq o Z=>(BR.ren (by rw[c];exact hH r b blk N)).1 Z) (λt e=>Blk.ren_nil.1 e)
 ·obtain⟨e1,n⟩:=g e;have:=T _ q n M;rw[D]at this;by_cases A:b<m
  ·rwa[j b A]at this
  ·exfalso;obtain⟨i,rfl⟩:∃i,b=m+i:=⟨b - m,by omega⟩;have L:=gm (upTo 0 m) d i;rw[lR]at L;rw[L]at this n;have hge':=az (z _ (jP (l:=d) (b:=i) (by omega)));have K:ro<=m:=K;omega
 ·have I:∀x,VR ι u x->VR (ib ι (upTo 0 m++d)) (out r).val x:=by
   intro x S;rw[p3]at S;exact(VR.ren _ x (by rw[c];exact hv r)).1 S
  cases e with
  | returned x=>exact⟨O.1,I x O.2⟩
  | panicked chain=>
   obtain⟨Y,x,p2,p3⟩:=O;exact⟨Y,x,p2,I x p3⟩
  | outgrown=>exact O
def idxN:List Nat->Nat->Option Nat
 | [],_=>none
 | x::l,c=>if x=c then some 0 else(idxN l c).map (·+1)
def lp:∀{l:List Nat} {c i:Nat},idxN l c=some i->i<l.length/\getN l i=c
 | [],c,i,h=>by cases h
 | x::l,c,i,h=>by
  simp only[idxN]at h;split at h
  ·rename_i e;simp only[af]at h;subst h;exact⟨by simp,e⟩
  ·cases a:idxN l c with
   | none=>simp[a]at h
   | some j=>
    simp only[a,dB,af]at h;subst h;obtain⟨h1,h2⟩:=lp a;exact⟨by simp;omega,by simp only[getN,h2]⟩
def Gy{l:List Nat}(d:l.Nodup){i:Nat}(h:i<l.length):idxN l (getN l i)=some i:=by
 cases hi:idxN l (getN l i)with
 | none=>
  exfalso;have:∀(l:List Nat) (c:Nat),c∈l->idxN l c≠none:=by
   intro l
   induction l with
   | nil=>intro c h;simp at h
   | cons x l ih=>
    intro c hc;simp only[idxN];split
    ·simp
    ·rename_i a;simp only[bv]at hc;have:=ih c (hc.resolve_left λe=>a e.symm);cases b:idxN l c with
     | none=>exact absurd b this
     | some _=>simp
  exact this l _ (jP h) hi
 | some j=>
  obtain⟨h1,h2⟩:=lp hi;rw[nh d h1 h h2]
def tl(rb:Nat)(ρ:List Nat):List Nat:=ρ.drop rb
def u0{ρ:List Nat}:∀{rb i:Nat},rb<=i->i<ρ.length->getN ρ i∈tl rb ρ:=by
 unfold tl
 induction ρ with
 | nil=>intro rb i _ h;simp at h
 | cons x l ih=>
  intro rb i h1 h2;cases rb with
  | zero=>exact jP h2
  | succ rb=>
   cases i with
   | zero=>omega
   | succ i=>
    simp only[uu,getN];exact ih (by omega) (by simpa using h2)
def xC{ρ:List Nat}:∀{rb c:Nat},c∈tl rb ρ->∃i,rb<=i/\i<ρ.length/\getN ρ i=c:=by
 unfold tl
 induction ρ with
 | nil=>intro rb c h;simp at h
 | cons x l ih=>
  intro rb c h;cases rb with
  | zero=>
   have:∀(l:List Nat),c∈l->∃i,0<=i/\i<l.length/\getN l i=c:=by
    intro l
    induction l with
    | nil=>intro h;simp at h
    | cons y l a=>
     intro h;rcases bv.1 h with rfl | h
     ·exact⟨0,aI _,by simp,rfl⟩
     ·obtain⟨i,_,h2,b⟩:=a h;exact⟨i+1,by omega,by simpa using h2,b⟩
   exact this _ (by simpa using h)
  | succ rb=>
   simp only[uu]at h;obtain⟨i,h1,h2,b⟩:=ih h;exact⟨i+1,by omega,by simpa using h2,b⟩
def vq{K:List Nat}{b:Nat}:isIn K b=true↔b∈K:=by
 unfold isIn;rw[mf];constructor
 ·rintro⟨x,a,c⟩;rw[aS c];exact a
 ·intro h;exact⟨b,h,by simp⟩
def B0.call{f:Nat}{args:List V}{H0:List (Nat×Blk)}{m ro rb:Nat}{out:FOut}(h:B0 P f args H0 m ro rb out)(hrr:ro<=rb)(hrm:ro<=m){ρ:List Nat}(hm:ρ.length=m)(hn:ρ.Nodup)
  (ha:V.lts m args=true) (hk0:∀b blk,look H0 b=some blk->b<m/\Blk.lt m blk=true) (hall:vC H0 m=true) (hko:∀b∈keys out.H,b<m+out.news.length) (hlo:∀b blk,look out.H b=some blk->Blk.lt (m+out.news.length) blk=true)
  (hw:∀b,ro<=b->b<m+out.news.length->b∈keys out.H) (hv:V.lt (m+out.news.length) out.val=true) {H:List (Nat×Blk)} (hH:∀b blk,look H0 b=some blk->look H (getN ρ b)=some (blk.ren ρ)) (fr:Nat):
  AM P f (V.rens ρ args) H fr { val:=V.ren (ρ++upTo fr out.news.length) out.val,pan:=out.pan,rd:=ρ,wr:=renH (ρ++upTo fr out.news.length) out.H,grow:=out.news.length,kill:=tl rb ρ }:=by
 subst hm;intro ι nb w xs hW hgl hfw hfr hx;have hmap:∀b,b<ρ.length->∃q,ι (getN ρ b)=some q:=by
  intro b C;obtain⟨blk,q1,q2⟩:=qe hall b C;rcases hW.blk (getN ρ b) (blk.ren ρ) (hH b blk q1) (λe=>q2 (Blk.ren_dead.1 e))with⟨q,_,q3,_⟩ | ⟨q3,_⟩
  ·exact⟨_,q3⟩
  ·exact⟨_,q3⟩
 have hWI:WR (ib ι ρ) H0 ρ.length w:=by
  refine⟨λb b' q q' J Y e3=>?_,λb q e=>(bO e).1,λb q e=>hW.dom _ _ (bO e).2,λb blk Z hd=>?_⟩
  ·obtain⟨a1,a2⟩:=bO J;obtain⟨b1,b2⟩:=bO Y;exact(hW.inj _ _ _ _ a2 b2 e3).imp (nh hn a1 b1) id
  ·obtain⟨c1,c2⟩:=hk0 b blk Z;exact(hW.blk (getN ρ b) (blk.ren ρ) (hH b blk Z) (λe=>hd (Blk.ren_dead.1 e))).map (ic c1) (λ_ _=>rfl) (λ_ _ hbr=>(BR.ren c2).1 hbr) (λt e=>Blk.ren_nil.1 e)
 have hf0:∀b q,ib ι ρ b=some (some q)->q.fz=true->b<ro:=by
  intro b q C U;rcases aA b ro with h | h
  ·exact h
  ·exfalso;obtain⟨a1,a2⟩:=bO C;obtain⟨v,hv'⟩:=nc (hw b h (by omega));have hkey:(getN (ρ++upTo fr out.news.length) b,v.ren (ρ++upTo fr out.news.length))∈renH (ρ++upTo fr out.news.length) out.H:=wu hv';have:=hfw _ hkey q (by simp only;rw[kz _ _ _ a1];exact a2);rw[this]at U;cases U
 have hgl0:GL (roI (ib ι ρ) ro) w:=hgl.mono λb q C=>by
  obtain⟨a1,a2⟩:=bO (lI C);obtain⟨v,hv'⟩:=nc (hw b (Dj C) (by omega));have hkey:(getN (ρ++upTo fr out.news.length) b,v.ren (ρ++upTo fr out.news.length))∈renH (ρ++upTo fr out.news.length) out.H:=wu hv';rw[kz _ _ _ a1]at hkey;exact .inl ⟨_,q,by rw[xy (ch.2 ⟨_,hkey,rfl⟩)];exact a2,rfl⟩
 refine(h (ib ι ρ) w xs hWI hf0 hgl0 ((VRs.ren args _ ha).1 hx)).mono λe w' ⟨M,d1,d2,g1,g1f,g2,g3⟩=>?_;have hsz:=g2.size;generalize hg:out.news.length=g at *;generalize hρ:ρ++upTo fr g=A at *;have E:A.length=ρ.length+g:=by rw[<-hρ,cR,lR]
 have X:∀b,b<ρ.length->getN A b=getN ρ b:=λb C=>by rw[<-hρ,kz _ _ _ C]
 have hnew:∀i,i<g->getN A (ρ.length+i)=fr+i:=λi hi=>by
  rw[<-hρ,gm];have:=rI g fr i [] hi;rwa[uR]at this
 have hnd:A.Nodup:=by
  rw[<-hρ];refine zm.2 ⟨hn,mZ g fr,λa ha b C hab=>?_⟩;subst hab;obtain⟨h1,h2⟩:=jG.1 C;obtain⟨i,_,hi1,hi2⟩:=xC (rb:=0) (ρ:=ρ) (c:=a) (by simpa[tl]using ha);obtain⟨q,U⟩:=hmap i hi1;rw[hi2,hfr a h1 h2]at U;cases U
 have hidx:∀{b},b<ρ.length+g->idxN A (getN A b)=some b:=λC=>Gy hnd (by rw[E];exact C);have hι':∃G:Inj,(∀c i,idxN A c=some i->G c=M i)/\(∀c,idxN A c=none->G c=ι c):=
  ⟨λc=>match idxN A c with | some i=>M i | none=>ι c,λc i hc=>by simp only[hc],λc hc=>by simp only[hc]⟩
 obtain⟨G,O,Q⟩:=hι';have hat:∀b,b<ρ.length+g->G (getN A b)=M b:=λb C=>O _ _ (hidx C);have hI:ib G A=M:=by
  funext b;rcases aA b (ρ.length+g)with C | C
  ·rw[ic (by rw[E];exact C),hat b C]
  ·have J:ib G A b=none:=by
    cases hc:ib G A b with
    | none=>rfl
    | some q=>have:=(bO hc).1;omega
   have Y:M b=none:=by
    cases hc:M b with
    | none=>rfl
    | some q=>have:=g1.low b q hc;omega
   rw[J,Y]
 have K:∀b,b<ρ.length->b<rb->M b=ι (getN ρ b):=λb h1 h2=>by rw[d1 b h1 h2,ic h1]
 have F:∀{c i},idxN A c=some i->(i<ρ.length/\c=getN ρ i)\/(∃j,i=ρ.length+j/\j<g/\c=fr+j):=by
  intro c i hi;obtain⟨h1,h2⟩:=lp hi;rcases aA i ρ.length with h | h
  ·exact .inl ⟨h,by rw[<-h2,X i h]⟩
  ·refine .inr ⟨i - ρ.length,by omega,by omega,?_⟩;rw[<-h2,<-hnew (i - ρ.length) (by omega)];congr 1;omega
 have hheap:∀c q,ι c=some (some q)->(∀i,idxN A c=some i->i<ro)->w'.heap[q.r]?=w.heap[q.r]?:=by
  intro c q hc hno;refine g2.blk q.r (hW.dom c q hc) λb p C hr=>?_;have h0:=lI C;obtain⟨a1,a2⟩:=bO h0;have hge:ro<=b:=by
   unfold roI at C;rcases aA b ro with h' | h'
   ·rw[show Nat.blt b ro=true from dA h']at C;cases C
   ·exact h'
  have hcb:c=getN ρ b:=(hW.inj _ _ _ _ hc a2 hr.symm).resolve_right λhh=>by have:=hf0 b p h0 hh.2;omega
  have hlt:=hno b (by rw[hcb,<-X b a1];exact hidx (by omega));unfold roI at C;rw[show Nat.blt b ro=true from dA hlt]at C;cases C
 refine⟨G,λc hk hc=>?_,λc q hk hc=>?_,λc q h1 h2 hc=>?_,λc q hc U=>?_,⟨λc c' q q' J Y e3=>?_,λc q hc=>?_,λc q hc=>?_,λc blk Z hd=>?_⟩,⟨g2.os,g2.tape,g2.output,g2.size,λk hk hno=>g2.blk k hk λb q C hr=>?_⟩,?_⟩
 ·cases hi:idxN A c with
  | none=>exact Q c hi
  | some i=>
   rw[O c i hi];rcases F hi with⟨h1,rfl⟩ | ⟨j,_,h2,rfl⟩
   ·refine K i h1 ?_;rcases aA i rb with h | h
    ·exact h
    ·rw[vq.2 (u0 h h1)]at hk;cases hk
   ·simp only at hc;omega
 ·obtain⟨i,h1,h2,rfl⟩:=xC (vq.1 hk);have:G (getN ρ i)=M i:=by rw[<-X i h2];exact hat i (by omega)
  rw[this]at hc;rcases d2 i q hc with⟨q',J,Y⟩ | h
  ·exact .inl ⟨q',(bO J).2,Y⟩
  ·exact .inr h
 ·simp only at h2;have hcj:c=getN A (ρ.length+(c - fr)):=by rw[hnew _ (by omega)];omega
  rw[hcj,hat _ (by omega)]at hc;rcases d2 _ q hc with⟨q',J,_⟩ | h
  ·have:=(bO J).1;omega
  ·exact h
 ·cases hi:idxN A c with
  | none=>rw[Q c hi]at hc;exact hc
  | some i=>
   rw[O c i hi]at hc;have hlt:=g1f i q hc U;rcases F hi with⟨h1,rfl⟩ | ⟨j,rfl,h2,rfl⟩
   ·rw[<-K i h1 (by omega)];exact hc
   ·exfalso;rcases d2 _ q hc with⟨p,J,_⟩ | _
    ·have:=(bO J).1;omega
    ·omega
 ·have far:∀{c c' i q q'},idxN A c=some i->idxN A c'=none->M i=some (some q)->ι c'=some (some q')->q.r=q'.r->q.fz=true/\q'.fz=true:=by
   intro c c' i q q' h1 h2 h3 h4 h5;rcases d2 i q h3 with⟨p,J,Y⟩ | h
   ·obtain⟨a1,a2⟩:=bO J;rcases hW.inj _ _ _ _ a2 h4 (Y.trans h5)with this | ⟨z1,z2⟩
    ·rw[<-this,<-X i a1,hidx (by omega)]at h2;cases h2
    ·have hlt:=hf0 i p J z1;have:=d1 i a1 (by omega);rw[h3,J]at this;simp only[af]at this;exact⟨by rw[this];exact z1,z2⟩
   ·have:=hW.dom c' q' h4;omega
  cases hi:idxN A c with
  | none=>
   rw[Q c hi]at J;cases W:idxN A c' with
   | none=>rw[Q c' W]at Y;exact hW.inj _ _ _ _ J Y e3
   | some i'=>rw[O c' i' W]at Y;exact .inr (far W hi Y J e3.symm).symm
  | some i=>
   rw[O c i hi]at J;cases W:idxN A c' with
   | none=>rw[Q c' W]at Y;exact .inr (far hi W J Y e3)
   | some i'=>
    rw[O c' i' W]at Y;refine(g1.inj _ _ _ _ J Y e3).imp (λthis=>?_) id;rw[<-(lp hi).2,<-(lp W).2,this]
 ·simp only;cases hi:idxN A c with
  | none=>
   rw[Q c hi]at hc;have:=hW.low c q hc;omega
  | some i=>
   rcases F hi with⟨h1,rfl⟩ | ⟨j,_,h2,rfl⟩
   ·obtain⟨p,hp⟩:=hmap i h1;have:=hW.low _ _ hp;omega
   ·omega
 ·cases hi:idxN A c with
  | none=>
   rw[Q c hi]at hc;have:=hW.dom c q hc;omega
  | some i=>rw[O c i hi]at hc;exact g1.dom i q hc
 ·simp only at Z;rw[ly]at Z;cases hlr:look (renH A out.H) c with
  | some x=>
   rw[hlr]at Z;simp only[Option.some_or,af]at Z;subst Z;obtain⟨b,blk',rfl,C,hlb,rfl⟩:=ym hnd (λq U=>by rw[E];exact hko q U) hlr;rw[E]at C;refine(g1.blk b blk' hlb (λe=>hd (Blk.ren_dead.2 e))).map (hat b C) (λ_ _=>rfl) (λq o hbr=>?_) (λt e=>Blk.ren_nil.2 e);rw[<-hI]at hbr;exact(BR.ren (by rw[E];exact hlo b blk' hlb)).2 hbr
  | none=>
   rw[hlr]at Z;simp only[yZ]at Z;rw[pQ]at Z;cases hl0:look H c with
   | none=>rw[hl0]at Z;cases Z
   | some y=>
    rw[hl0]at Z;simp only[dB,af]at Z;subst Z;have hlt:∀i,idxN A c=some i->i<ro:=by
     intro i hi;rcases aA i ro with h | h
     ·exact h
     ·exfalso;obtain⟨h1,h2⟩:=lp hi;rw[E]at h1;obtain⟨v,hv'⟩:=nc (hw i h h1);have:=tc hnd (λq U=>by rw[E];exact hko q U) hv';rw[h2,hlr]at this;cases this
    have hιc:G c=ι c:=by
     cases hi:idxN A c with
     | none=>exact Q c hi
     | some i=>
      rw[O c i hi];have hlti:=hlt i hi;rcases F hi with⟨h1,rfl⟩ | ⟨j,rfl,h2,rfl⟩
      ·exact K i h1 (by omega)
      ·exfalso;rcases aA (ρ.length+j) ro with _ | h
       ·have hb0:ι (fr+j)=none:=hfr _ (by omega) (by simp only;omega);rcases hW.blk _ y hl0 (by rintro rfl;exact hd rfl)with⟨q,_,q3,_⟩ | ⟨q3,_⟩<;>(rw[hb0]at q3;cases q3)
       ·omega
    refine(hW.blk c y hl0 (by rintro rfl;exact hd rfl)).map hιc (λq U=>hheap c q U hlt) (λq o hbr=>BR.kill (λb C q U=>?_) hbr) (by rintro t rfl;rfl);cases hi:idxN A b with
    | none=>rw[Q b hi];exact U
    | some i=>
     rw[O b i hi];rcases F hi with⟨h1,rfl⟩ | ⟨j,_,h2,rfl⟩
     ·rw[K i h1 ?_];exact U;rcases aA i rb with h | h
      ·exact h
      ·rw[vq.2 (u0 h h1)]at C;cases C
     ·rw[hfr _ (by omega) (by simp only;omega)]at U;cases U
 ·have h1:=lI C;obtain⟨a1,a2⟩:=bO h1;have hge:ro<=b:=by
   unfold roI at C;rcases aA b ro with h' | h'
   ·rw[show Nat.blt b ro=true from dA h']at C;cases C
   ·exact h'
  refine hno (getN ρ b) q ?_ hr;rw[xy (by rw[xH];exact ch.2 ⟨b,hw b hge (by omega),X b a1⟩)];exact a2
 ·rw[<-hI]at g3;cases e with
  | returned x=>exact⟨g3.1,(VR.ren _ _ (by rw[E];exact hv)).2 g3.2⟩
  | panicked chain=>
   obtain⟨p1,x,p2,p3⟩:=g3;exact⟨p1,x,p2,(VR.ren _ _ (by rw[E];exact hv)).2 p3⟩
  | outgrown=>exact g3
def funE{A R:Type}(f rb:Nat)(b:List V->List (Nat×Blk)->Option (A×List Nat))(sh:A->Option R)(a:(α:Type)->R->(FOut->Option α)->Option α):Ent:=
 ⟨f,λα args H fr k=>ob (b args H) λp=>ob (sh p.1) λr=>a α r λo=>
  k { val:=V.ren (p.2++upTo fr o.news.length) o.val,pan:=o.pan,rd:=p.2,wr:=renH (p.2++upTo fr o.news.length) o.H,grow:=o.news.length,kill:=tl rb p.2 }⟩
def Ky{A R:Type}{f m ro rb:Nat}{w:List V->List (Nat×Blk)->Option (A×List Nat)}{sh:A->Option R}{c:(α:Type)->R->(FOut->Option α)->Option α}{out:R->FOut}
  {arg:A->List V} {H0:A->List (Nat×Blk)} (g:gj P f) (u:ro<=rb) (s:ro<=m) (q:∀α r k,c α r k=k (out r))
  (n:∀l H a ρ,w l H=some (a,ρ)->ρ.length=m/\ρ.Nodup/\l=V.rens ρ (arg a)/\∀b blk,look (H0 a) b=some blk->look H (getN ρ b)=some (blk.ren ρ))
  (G:∀a,V.lts m (arg a)=true) (e:∀a b blk,look (H0 a) b=some blk->b<m/\Blk.lt m blk=true) (d:∀a,vC (H0 a) m=true) (o:∀r,∀b∈keys (out r).H,b<m+(out r).news.length)
  (j:∀r b blk,look (out r).H b=some blk->Blk.lt (m+(out r).news.length) blk=true) (E:∀r b,ro<=b->b<m+(out r).news.length->b∈keys (out r).H) (B:∀r,V.lt (m+(out r).news.length) (out r).val=true)
  (h:∀a r,sh a=some r->B0 P f (arg a) (H0 a) m ro rb (out r)):cN P (funE f rb w sh c):=by
 intro α args H fr k z v;simp only[funE]at v;obtain⟨⟨a,ρ⟩,h1,t⟩:=ah v;obtain⟨r,h2,i⟩:=ah t;rw[q]at i;obtain⟨x,F,I,D⟩:=n args H a ρ h1;subst I;refine⟨_,i,λJ p=>.inl ⟨g,(h a r h2).call u s x F (G a) (e a) (d a) (o r) (j r) (E r) (B r) (λb blk y=>?_) fr⟩⟩;have C:=(e a b blk y).1;rw[p _ (jP (by rw[x];exact C))];exact D b blk y
def Ie(Q:Nat->Blk->Prop):List (Nat×Blk)->Prop
 | []=>True
 | (b,x)::l=>Q b x/\Ie Q l
def uY{Q:Nat->Blk->Prop}:∀{l:List (Nat×Blk)},Ie Q l->∀b x,look l b=some x->Q b x
 | [],_,b,x,h=>by cases h
 | (c,y)::l,h,b,x,a=>by
  rw[aG]at a;split at a
  ·rename_i e;subst e;simp only[af]at a;subst a;exact h.1
  ·exact uY h.2 b x a
def chkH(m:Nat)(H:List (Nat×Blk)):Bool:=H.all λp=>Nat.blt p.1 m&&Blk.lt m p.2
def mO{m:Nat}:∀{H:List (Nat×Blk)},chkH m H=true->∀b x,look H b=some x->b<m/\Blk.lt m x=true
 | [],_,b,x,h=>by cases h
 | (c,y)::l,h,b,x,a=>by
  simp only[chkH,ln,aw]at h;rw[aG]at a;split at a
  ·rename_i e;subst e;simp only[af]at a;subst a;exact⟨az h.1.1,h.1.2⟩
  ·exact mO (H:=l) h.2 b x a
def xQ{m:Nat}{H:List (Nat×Blk)}(h:chkH m H=true):∀b∈keys H,b<m:=by
 intro b a;simp only[keys,ch]at a;obtain⟨p,c,rfl⟩:=a;simp only[chkH,ct,aw]at h;exact az (h p c).1
end Go.Abs
