
import Derived.Test.YtadejcglcffgbaaGreatDoorAbsO
set_option linter.unusedSimpArgs false
set_option linter.unusedVariables false
set_option linter.defProp false
namespace Go.Abs
variable {P:Program}
mutual
def V.ren(ρ:List Nat):V->V
 | .p c o=>.p (getN ρ c) o
 | .sl c o n m=>.sl (getN ρ c) o n m
 | .pr z c j o=>.pr z (getN ρ c) j o
 | .ws c=>.ws (getN ρ c)
 | .mp c=>.mp (getN ρ c)
 | .rs z c j n m=>.rs z (getN ρ c) j n m
 | .unk=>.unk
 | .fn f l=>.fn f (V.rens ρ l)
 | .ag l=>.ag (V.rens ρ l)
 | .tp l=>.tp (V.rens ρ l)
 | .it t v=>.it t (V.ren ρ v)
 | .b x=>.b x
 | .i k n=>.i k n
 | .s l=>.s l
 | .pn=>.pn
 | .sn=>.sn
 | .nf=>.nf
 | .ni=>.ni
 | .ai k n l=>.ai k n l
def V.rens(ρ:List Nat):List V->List V
 | []=>[]
 | v::l=>V.ren ρ v::V.rens ρ l
end
def Blk.ren(ρ:List Nat):Blk->Blk
 | .cells l=>.cells (V.rens ρ l)
 | .dead=>.dead
 | .rows t l=>.rows t l
 | .ints k n l=>.ints k n l
 | .iter s pos=>.iter s pos
 | .mp k l=>.mp k l
def renH(ρ:List Nat):List (Nat×Blk)->List (Nat×Blk)
 | []=>[]
 | (b,x)::l=>(getN ρ b,x.ren ρ)::renH ρ l
def lg(ι:Inj)(ρ:List Nat):Inj:=λb=>cond (Nat.blt b ρ.length) (ι (getN ρ b)) none
def lu{ι:Inj}{ρ:List Nat}{b:Nat}(h:b<ρ.length):lg ι ρ b=ι (getN ρ b):=by
 have:Nat.blt b ρ.length=true:=cD h;simp[lg,this]
def du{ι:Inj}{ρ:List Nat}{b:Nat}{r:Option Rf}(h:lg ι ρ b=some r):b<ρ.length/\ι (getN ρ b)=some r:=by
 unfold lg at h;cases a:Nat.blt b ρ.length with
 | true=>rw[a]at h;exact⟨aI a,h⟩
 | false=>rw[a]at h;cases h
mutual
def VR.ren{ι:Inj}{ρ:List Nat}:∀(v:V) (x:Value),V.lt ρ.length v=true->(VR ι (V.ren ρ v) x↔VR (lg ι ρ) v x)
 | .b _,_,_ | .i _ _,_,_ | .s _,_,_ | .pn,_,_ | .sn,_,_ | .nf,_,_ | .ni,_,_ | .ai _ _ _,_,_ | .unk,_,_=>by simp only[V.ren,VR]
 | .p c o,x,h | .pr z c j o,x,h | .ws c,x,h | .rs z c j n _,x,h | .mp c,x,h=>by
  simp only[V.lt]at h;simp only[V.ren,VR,lu (ι:=ι) (aI h:c<ρ.length)]
 | .sl c o n m,x,h=>by
  simp only[V.lt]at h;simp only[V.ren,VR,lu (ι:=ι) (aI h:c<ρ.length)]
 | .fn f l,x,h=>by
  simp only[V.lt]at h;simp only[V.ren,VR];exact qI λC=>vu λ_=>VRs.ren l C.toList h
 | .it t v,x,h=>by
  simp only[V.lt]at h;simp only[V.ren,VR];exact qI λy=>vu λ_=>VR.ren v y h
 | .ag l,x,h=>by
  simp only[V.lt]at h;simp only[V.ren,VR];exact qI λC=>vu λ_=>VRs.ren l C.toList h
 | .tp l,x,h=>by
  simp only[V.lt]at h;simp only[V.ren,VR];exact qI λC=>vu λ_=>VRs.ren l C.toList h
def VRs.ren{ι:Inj}{ρ:List Nat}:∀(l:List V) (C:List Value),V.lts ρ.length l=true->(VRs ι (V.rens ρ l) C↔VRs (lg ι ρ) l C)
 | [],_,_=>by simp[V.rens,VRs]
 | v::l,C,h=>by
  simp only[V.lts,aB]at h;simp only[V.rens,VRs];exact qI λy=>qI λE=>vu λ_=>and_congr (VR.ren v y h.1) (VRs.ren l E h.2)
end
def BR.ren{ι:Inj}{ρ:List Nat}{q:Rf}:∀{blk:Blk} {o:Obj},Blk.lt ρ.length blk=true->(BR ι q (blk.ren ρ) o↔BR (lg ι ρ) q blk o)
 | .dead,_,_ | .ints _ _ _,_,_ | .iter _ _,_,_ | .rows _ _,_,_ | .mp _ _,_,_=>by simp[Blk.ren,BR]
 | .cells l,o,h=>by
  simp only[Blk.lt]at h;simp only[Blk.ren,BR];exact qI λC=>qI λe=>qI λfr=>vu λ_=>and_congr_left λ_=>VRs.ren l C.toList h
def Blk.ren_nil{ρ:List Nat}{blk:Blk}{t:List Lf}:blk.ren ρ=.rows t []↔blk=.rows t []:=by
 cases blk<;>simp[Blk.ren]
def Blk.ren_dead{ρ:List Nat}{blk:Blk}:blk.ren ρ=.dead↔blk=.dead:=by
 cases blk<;>simp[Blk.ren]
def B6(H:List (Nat×Blk)):Nat->Bool
 | 0=>true
 | m+1=>(match look H m with | some .dead=>false | some _=>true | none=>false)&&B6 H m
def u0{H:List (Nat×Blk)}:∀{m:Nat},B6 H m=true->∀b,b<m->∃blk,look H b=some blk/\blk≠.dead
 | 0,_,b,d=>by omega
 | m+1,h,b,d=>by
  simp only[B6,aB]at h;by_cases c:b=m
  ·subst c;have a:=h.1;split at a
   ·cases a
   ·rename_i blk f g;exact⟨blk,g,λe=>f (by rw[e])⟩
   ·cases a
  ·exact u0 h.2 b (by omega)
def nG:∀{l:List Nat} {b:Nat},b<l.length->getN l b∈l
 | [],_,h=>by simp at h
 | x::l,0,_=>by simp[getN]
 | x::l,b+1,h=>by simp only[getN];exact fD _ (nG (by simpa using h))
def sg:∀{l:List Nat} {b c:Nat},l.Nodup->b<l.length->c<l.length->getN l b=getN l c->b=c
 | [],_,_,_,h,_,_=>by simp at h
 | x::l,0,0,_,_,_,_=>rfl
 | x::l,0,c+1,a,_,hc,h=>by
  simp only[getN]at h;have:=nG (l:=l) (b:=c) (by simpa using hc);rw[<-h]at this;exact absurd this (xA.1 a).1
 | x::l,b+1,0,a,d,_,h=>by
  simp only[getN]at h;have:=nG (l:=l) (b:=b) (by simpa using d);rw[h]at this;exact absurd this (xA.1 a).1
 | x::l,b+1,c+1,a,d,hc,h=>by
  simp only[getN]at h;have:=sg (xA.1 a).2 (by simpa using d) (by simpa using hc) h;omega
def ER{ρ:List Nat}(l:ρ.Nodup):∀{H:List (Nat×Blk)} {c:Nat} {blk:Blk},(∀b∈keys H,b<ρ.length)->look (renH ρ H) c=some blk->∃b a,c=getN ρ b/\b<ρ.length/\look H b=some a/\blk=a.ren ρ
 | [],c,blk,_,h=>by simp[renH,look]at h
 | (b,x)::H,c,blk,i,h=>by
  simp only[renH,aS]at h;split at h
  ·rename_i e;simp only[aq]at h;exact⟨b,x,e.symm,i b (by simp[keys]),by simp[aS],h.symm⟩
  ·rename_i e;obtain⟨d,y,g,j,n,m⟩:=ER l (λq k=>i q (by simp only[keys,gN,cb];exact .inr k)) h;refine⟨d,y,g,j,?_,m⟩;rw[aS,ab (λf=>e (by rw[f,g])),n]
def Dl(ρ:List Nat):∀H:List (Nat×Blk),keys (renH ρ H)=(keys H).map (getN ρ)
 | []=>rfl
 | (b,x)::H=>by
  have:=Dl ρ H;simp only[keys]at this ⊢;simp[renH,this]
def ED{wr:List (Nat×Blk)}{ι:Inj}{b:Nat}(h:b∈keys wr):vL wr ι b=ι b:=by
 unfold vL;rw[ae];simp only[keys,eF]at h;obtain⟨x,hx,rfl⟩:=h;exact sX.2 ⟨x,hx,by simp⟩
def C0{ρ:List Nat}:∀{H:List (Nat×Blk)} {b:Nat} {v:Blk},look H b=some v->(getN ρ b,v.ren ρ)∈renH ρ H
 | [],_,_,h=>by cases h
 | (c,x)::H,b,v,h=>by
  rw[aS]at h;simp only[renH];split at h
  ·rename_i e;subst e;simp only[aq]at h;subst h;exact l7
  ·exact fD _ (C0 h)
def wH{ρ:List Nat}(g:ρ.Nodup):∀{H:List (Nat×Blk)} {b:Nat} {blk:Blk},(∀b∈keys H,b<ρ.length)->look H b=some blk->look (renH ρ H) (getN ρ b)=some (blk.ren ρ)
 | [],b,blk,_,h=>by cases h
 | (c,x)::H,b,blk,f,h=>by
  have i:b<ρ.length:=by
   refine f b ?_;have:b∈((c,x)::H).map (·.1):=by
    by_cases a:b∈((c,x)::H).map (·.1)
    ·exact a
    ·rw[rc a]at h;cases h
   exact this
  have hc:c<ρ.length:=f c (by simp[keys]);rw[aS]at h;simp only[renH,aS];split at h
  ·rename_i e;subst e;simp only[aq]at h;subst h;rw[ae rfl]
  ·rename_i d;rw[ab (λe=>d (sg g hc i e))];exact wH g (λq j=>f q (by simp only[keys,gN,cb];exact .inr j)) h
structure FOut where
 pan:Bool
 val:V
 H:List (Nat×Blk)
 news:List Nat:=[]
def xh(P:Program)(f:Nat)(args:List V)(H0:List (Nat×Blk))(m ro rb:Nat)(out:FOut):Prop:=
 ∀(ι0:Inj) (w:World) (c:Array Value),WR ι0 H0 m w->(∀b q,ι0 b=some (some q)->q.fz=true->b<ro)->GL (roI ι0 ro) w->VRs ι0 args c.toList->
  Calls P f c w λe w'=>∃ι:Inj,(∀b,b<m->b<rb->ι b=ι0 b)/\(∀b q,ι b=some (some q)->(∃a,ι0 b=some (some a)/\a.r=q.r)\/w.heap.size<=q.r)/\
   WR ι out.H (m+out.news.length) w'/\(∀b q,ι b=some (some q)->q.fz=true->b<ro)/\Fr (roI ι0 ro) w w'/\RetR ι { val:=out.val,pan:=out.pan } e
def We(m c:Nat)(acc:List Nat):List Nat:=cond (Nat.blt c m) acc (cond (acc.any (Nat.beq c)) acc (acc++[c]))
mutual
def V.news(m:Nat):V->List Nat->List Nat
 | .p c _,acc | .sl c _ _ _,acc | .pr _ c _ _,acc | .ws c,acc | .rs _ c _ _ _,acc | .mp c,acc=>We m c acc
 | .fn _ l,acc | .ag l,acc | .tp l,acc=>V.newss m l acc
 | .it _ v,acc=>V.news m v acc
 | .b _,acc | .i _ _,acc | .s _,acc | .pn,acc | .sn,acc | .nf,acc | .ni,acc | .ai _ _ _,acc | .unk,acc=>acc
def V.newss(m:Nat):List V->List Nat->List Nat
 | [],acc=>acc
 | v::l,acc=>V.newss m l (V.news m v acc)
end
def Gp(m:Nat)(H:List (Nat×Blk)):List Nat->List Nat->List Nat
 | [],acc=>acc
 | b::l,acc=>match look H b with
  | some (.cells c)=>Gp m H l (V.newss m c acc)
  | _=>Gp m H l acc
def upTo:Nat->Nat->List Nat
 | _,0=>[]
 | b,n+1=>b::upTo (b+1) n
def je:List Nat->Bool
 | []=>true
 | x::l=>l.all (λy=>!Nat.beq x y)&&je l
def qs:∀{l:List Nat},je l=true->l.Nodup
 | [],_=>List.nodup_nil
 | x::l,h=>by
  simp only[je,aB,bS]at h;refine xA.2 ⟨λhx=>?_,qs h.2⟩;have:=h.1 x hx;simp at this
def funX{R:Type}(ws:List Nat)(m ro rb:Nat)(a:Bool->V->List (Nat×Blk)->List Nat->Option R):Bool->V->St->Option R:=
 λpan v s=>match V.newss m [v] (Gp m s.H ws [])with
  | nw=>match je nw&&(nw.all (Nat.ble m)&&(Nat.beq s.ro ro&&Nat.beq s.rb rb))with
   | true=>PQ s.nb s.H (ws++nw) λH=>a pan v H nw
   | false=>none
def qi:∀(n b:Nat),(upTo b n).length=n
 | 0,_=>rfl
 | n+1,b=>by simp[upTo,qi n]
def wz:∀(n b c:Nat) (l:List Nat),c<n->getN (upTo b n++l) c=b+c
 | 0,_,_,_,h=>by omega
 | n+1,b,0,l,_=>rfl
 | n+1,b,c+1,l,h=>by
  simp only[upTo,fi,getN,wz n (b+1) c l (by omega)];omega
def nz:∀{n b c:Nat},c∈upTo b n↔b<=c/\c<b+n
 | 0,b,c=>by simp only[upTo,ov,false_iff];omega
 | n+1,b,c=>by
  simp only[upTo,cb,nz (n:=n)];omega
def sw:∀(n b:Nat),(upTo b n).Nodup
 | 0,_=>List.nodup_nil
 | n+1,b=>xA.2 ⟨λh=>by have:=nz.1 h;omega,sw n (b+1)⟩
def jZ:∀(l k:List Nat) (c:Nat),getN (l++k) (l.length+c)=getN k c
 | [],k,c=>by simp
 | x::l,k,c=>by
  rw[aG,show l.length+1+c=(l.length+c)+1 by omega];simp only[fi,getN,jZ l k c]
def oJ:∀(l k:List Nat) (c:Nat),c<l.length->getN (l++k) c=getN l c
 | [],k,c,h=>by simp at h
 | x::l,k,0,_=>rfl
 | x::l,k,c+1,h=>by simp only[fi,getN,oJ l k c (by simpa using h)]
def Un{R:Type}{ws:List Nat}{m ro rb:Nat}{un:Bool->V->List (Nat×Blk)->List Nat->Option R}{out:R->FOut}
  (X:∀pan v H d r,un pan v H d=some r->(out r).pan=pan/\(out r).news.length=d.length/\v=V.ren (upTo 0 m++d) (out r).val/\H=renH (upTo 0 m++d) (out r).H)
  (hv:∀r,V.lt (m+(out r).news.length) (out r).val=true) (hH:∀r b blk,look (out r).H b=some blk->Blk.lt (m+(out r).news.length) blk=true)
  (hk:∀r,∀b∈keys (out r).H,b<m+(out r).news.length)
  (L:ro<=m) {f:Nat} {args:List V} {H0:List (Nat×Blk)} {r:R} (E:B6 H0 m=true) (F:BP P f args H0 m ro (funX ws m ro rb un) r):xh P f args H0 m ro rb (out r):=by
 intro ι0 w xs hW Y hgl hx;refine(F ι0 w xs hW Y hgl hx).mono λe w' ⟨pan,u,s,ι,n,h2,h3,h4,W,h5,O⟩=>?_;unfold funX at n;simp only at n;split at n
 case h_2=>cases n
 rename_i k;simp only[aB,js,bS]at k;obtain⟨D,B,G,hrb⟩:=k;obtain⟨H',g1,g2⟩:=I9 n;obtain⟨p1,p2,Z,p4⟩:=X _ _ _ _ _ g1;generalize hnw:V.newss m [u] (Gp m s.H ws [])=d at *;subst p1;have c:(upTo 0 m++d).length=m+(out r).news.length:=by rw[aZ,qi,p2]
 have N:(upTo 0 m++d).Nodup:=by
  refine G3.2 ⟨sw m 0,qs D,λa ha b k hab=>?_⟩;subst hab;have n:=(nz.1 ha).2;have h2:=aI (B a k);omega
 have j:∀b,b<m->getN (upTo 0 m++d) b=b:=λb k=>by rw[wz m 0 b _ k];omega
 have A:∀b,m<=b->ι0 b=none:=by
  intro b k;cases hi:ι0 b with
  | none=>rfl
  | some q=>have:=hW.low b q hi;omega
 have g:∀{b q},lg ι (upTo 0 m++d) b=some q->b<m+(out r).news.length/\ι (getN (upTo 0 m++d) b)=some q:=λh=>by
  have:=du h;rwa[c]at this
 refine⟨lg ι (upTo 0 m++d),λb n h1'=>?_,λb q K=>?_,⟨λb b' q q' e1 y Q=>?_,λb q e=>(g e).1,λb q e=>h4.dom _ _ (g e).2,λb blk S hd=>?_⟩,λb q e K=>?_,by rw[G]at h5;exact h5,?_⟩
 ·rw[lu (by rw[c];omega),j b n];obtain⟨blk,U,q2⟩:=u0 E b n;have hs:∃q,ι0 b=some q:=by
   rcases hW.blk b blk U q2 with⟨q,_,C,_⟩ | ⟨C,_⟩
   ·exact⟨_,C⟩
   ·exact⟨_,C⟩
  obtain⟨q,C⟩:=hs;rcases h2 b q C with h | h
  ·rw[h,C]
  ·rw[hrb]at h;omega
 ·obtain⟨e1,y⟩:=g K;by_cases z:b<m
  ·rw[j b z]at y;exact h3 b q y
  ·rcases h3 _ q y with⟨q',Q,_⟩ | h
   ·obtain⟨i,rfl⟩:∃i,b=m+i:=⟨b - m,by omega⟩;have J:=jZ (upTo 0 m) d i;rw[qi]at J;rw[J,A _ (aI (B _ (nG (by omega))))]at Q;cases Q
   ·exact .inr h
 ·obtain⟨a1,a2⟩:=g e1;obtain⟨b1,b2⟩:=g y;exact(h4.inj _ _ _ _ a2 b2 Q).imp (sg N (by rw[c];exact a1) (by rw[c];exact b1)) id
 ·have k:b<m+(out r).news.length:=hk r b (by
   by_cases p:b∈(out r).H.map (·.1)
   ·exact p
   ·rw[rc p]at S;cases S)
  have M:=wH N (λq K=>by rw[c];exact hk r q K) S;rw[<-p4]at M;obtain⟨U,_,_⟩:=g2 _ _ M;exact(h4.blk _ _ U (λe=>hd (Blk.ren_dead.1 e))).map (lu (by rw[c];exact k)) (λ_ _=>rfl) (λq o T=>(BR.ren (by rw[c];exact hH r b blk S)).1 T) (λt e=>Blk.ren_nil.1 e)
 ·obtain⟨e1,y⟩:=g e;have:=W _ q y K;rw[G]at this;by_cases z:b<m
  ·rwa[j b z]at this
  ·exfalso;obtain⟨i,rfl⟩:∃i,b=m+i:=⟨b - m,by omega⟩;have J:=jZ (upTo 0 m) d i;rw[qi]at J;rw[J]at this y;have hge':=aI (B _ (nG (l:=d) (b:=i) (by omega)));have L:ro<=m:=L;omega
 ·have I:∀x,VR ι u x->VR (lg ι (upTo 0 m++d)) (out r).val x:=by
   intro x hx;rw[Z]at hx;exact(VR.ren _ x (by rw[c];exact hv r)).1 hx
  cases e with
  | returned x=>exact⟨O.1,I x O.2⟩
  | panicked chain=>
   obtain⟨p1,x,p2,Z⟩:=O;exact⟨p1,x,p2,I x Z⟩
  | outgrown=>exact O
def idxN:List Nat->Nat->Option Nat
 | [],_=>none
 | x::l,c=>if x=c then some 0 else(idxN l c).map (·+1)
def pi:∀{l:List Nat} {c i:Nat},idxN l c=some i->i<l.length/\getN l i=c
 | [],c,i,h=>by cases h
 | x::l,c,i,h=>by
  simp only[idxN]at h;split at h
  ·rename_i e;simp only[aq]at h;subst h;exact⟨by simp,e⟩
  ·cases a:idxN l c with
   | none=>simp[a]at h
   | some j=>
    simp only[a,fh,aq]at h;subst h;obtain⟨d,b⟩:=pi a;exact⟨by simp;omega,by simp only[getN,b]⟩
def Pq{l:List Nat}(d:l.Nodup){i:Nat}(h:i<l.length):idxN l (getN l i)=some i:=by
 cases hi:idxN l (getN l i)with
 | none=>
  exfalso;have:∀(l:List Nat) (c:Nat),c∈l->idxN l c≠none:=by
   intro l
   induction l with
   | nil=>intro c h;simp at h
   | cons x l ih=>
    intro c hc;simp only[idxN];split
    ·simp
    ·rename_i a;simp only[cb]at hc;have:=ih c (hc.resolve_left λe=>a e.symm);cases hx:idxN l c with
     | none=>exact absurd hx this
     | some _=>simp
  exact this l _ (nG h) hi
 | some j=>
  obtain⟨f,b⟩:=pi hi;rw[sg d f h b]
def yL(rb:Nat)(ρ:List Nat):List Nat:=ρ.drop rb
def Ap{ρ:List Nat}:∀{rb i:Nat},rb<=i->i<ρ.length->getN ρ i∈yL rb ρ:=by
 unfold yL
 induction ρ with
 | nil=>intro rb i _ h;simp at h
 | cons x l ih=>
  intro rb i b a;cases rb with
  | zero=>exact nG a
  | succ rb=>
   cases i with
   | zero=>omega
   | succ i=>
    simp only[oi,getN];exact ih (by omega) (by simpa using a)
def E9{ρ:List Nat}:∀{rb c:Nat},c∈yL rb ρ->∃i,rb<=i/\i<ρ.length/\getN ρ i=c:=by
 unfold yL
 induction ρ with
 | nil=>intro rb c h;simp at h
 | cons x l ih=>
  intro rb c h;cases rb with
  | zero=>
   have:∀(l:List Nat),c∈l->∃i,0<=i/\i<l.length/\getN l i=c:=by
    intro l
    induction l with
    | nil=>intro h;simp at h
    | cons y l b=>
     intro h;rcases cb.1 h with rfl | h
     ·exact⟨0,aU _,by simp,rfl⟩
     ·obtain⟨i,_,a,d⟩:=b h;exact⟨i+1,by omega,by simpa using a,d⟩
   exact this _ (by simpa using h)
  | succ rb=>
   simp only[oi]at h;obtain⟨i,e,a,d⟩:=ih h;exact⟨i+1,by omega,by simpa using a,d⟩
def CW{K:List Nat}{b:Nat}:isIn K b=true↔b∈K:=by
 unfold isIn;rw[sX];constructor
 ·rintro⟨x,hx,a⟩;rw[bB a];exact hx
 ·intro h;exact⟨b,h,by simp⟩
def xh.call{f:Nat}{args:List V}{H0:List (Nat×Blk)}{m ro rb:Nat}{out:FOut}(h:xh P f args H0 m ro rb out)(hrr:ro<=rb)(hrm:ro<=m){ρ:List Nat}(hm:ρ.length=m)(hn:ρ.Nodup)
  (ha:V.lts m args=true) (hk0:∀b blk,look H0 b=some blk->b<m/\Blk.lt m blk=true) (hall:B6 H0 m=true) (hko:∀b∈keys out.H,b<m+out.news.length) (hlo:∀b blk,look out.H b=some blk->Blk.lt (m+out.news.length) blk=true)
  (hw:∀b,ro<=b->b<m+out.news.length->b∈keys out.H) (hv:V.lt (m+out.news.length) out.val=true) {H:List (Nat×Blk)} (hH:∀b blk,look H0 b=some blk->look H (getN ρ b)=some (blk.ren ρ)) (fr:Nat):
  HW P f (V.rens ρ args) H fr { val:=V.ren (ρ++upTo fr out.news.length) out.val,pan:=out.pan,rd:=ρ,wr:=renH (ρ++upTo fr out.news.length) out.H,grow:=out.news.length,kill:=yL rb ρ }:=by
 subst hm;intro ι nb w xs hW hgl hfw hfr hx;have hmap:∀b,b<ρ.length->∃q,ι (getN ρ b)=some q:=by
  intro b E;obtain⟨blk,q1,q2⟩:=u0 hall b E;rcases hW.blk (getN ρ b) (blk.ren ρ) (hH b blk q1) (λe=>q2 (Blk.ren_dead.1 e))with⟨q,_,q3,_⟩ | ⟨q3,_⟩
  ·exact⟨_,q3⟩
  ·exact⟨_,q3⟩
 have hWI:WR (lg ι ρ) H0 ρ.length w:=by
  refine⟨λb b' q q' U e2 e3=>?_,λb q e=>(du e).1,λb q e=>hW.dom _ _ (du e).2,λb blk hl hd=>?_⟩
  ·obtain⟨a1,a2⟩:=du U;obtain⟨b1,b2⟩:=du e2;exact(hW.inj _ _ _ _ a2 b2 e3).imp (sg hn a1 b1) id
  ·obtain⟨c1,c2⟩:=hk0 b blk hl;exact(hW.blk (getN ρ b) (blk.ren ρ) (hH b blk hl) (λe=>hd (Blk.ren_dead.1 e))).map (lu c1) (λ_ _=>rfl) (λ_ _ hbr=>(BR.ren c2).1 hbr) (λt e=>Blk.ren_nil.1 e)
 have hf0:∀b q,lg ι ρ b=some (some q)->q.fz=true->b<ro:=by
  intro b q E hq;rcases aJ b ro with h | h
  ·exact h
  ·exfalso;obtain⟨a1,a2⟩:=du E;obtain⟨v,hv'⟩:=sc (hw b h (by omega));have hkey:(getN (ρ++upTo fr out.news.length) b,v.ren (ρ++upTo fr out.news.length))∈renH (ρ++upTo fr out.news.length) out.H:=C0 hv';have:=hfw _ hkey q (by simp only;rw[oJ _ _ _ a1];exact a2);rw[this]at hq;cases hq
 have hgl0:GL (roI (lg ι ρ) ro) w:=hgl.mono λb q E=>by
  obtain⟨a1,a2⟩:=du (qd E);obtain⟨v,hv'⟩:=sc (hw b (N2 E) (by omega));have hkey:(getN (ρ++upTo fr out.news.length) b,v.ren (ρ++upTo fr out.news.length))∈renH (ρ++upTo fr out.news.length) out.H:=C0 hv';rw[oJ _ _ _ a1]at hkey;exact .inl ⟨_,q,by rw[ED (eF.2 ⟨_,hkey,rfl⟩)];exact a2,rfl⟩
 refine(h (lg ι ρ) w xs hWI hf0 hgl0 ((VRs.ren args _ ha).1 hx)).mono λe w' ⟨X,d1,d2,g1,g1f,g2,g3⟩=>?_;have hsz:=g2.size;generalize hg:out.news.length=g at *;generalize hρ:ρ++upTo fr g=C at *;have F:C.length=ρ.length+g:=by rw[<-hρ,aZ,qi]
 have hold:∀b,b<ρ.length->getN C b=getN ρ b:=λb E=>by rw[<-hρ,oJ _ _ _ E]
 have hnew:∀i,i<g->getN C (ρ.length+i)=fr+i:=λi hi=>by
  rw[<-hρ,jZ];have:=wz g fr i [] hi;rwa[lH]at this
 have hnd:C.Nodup:=by
  rw[<-hρ];refine G3.2 ⟨hn,sw g fr,λa ha b E hab=>?_⟩;subst hab;obtain⟨G,Q⟩:=nz.1 E;obtain⟨i,_,hi1,hi2⟩:=E9 (rb:=0) (ρ:=ρ) (c:=a) (by simpa[yL]using ha);obtain⟨q,hq⟩:=hmap i hi1;rw[hi2,hfr a G Q]at hq;cases hq
 have hidx:∀{b},b<ρ.length+g->idxN C (getN C b)=some b:=λE=>Pq hnd (by rw[F];exact E);have hι':∃O:Inj,(∀c i,idxN C c=some i->O c=X i)/\(∀c,idxN C c=none->O c=ι c):=
  ⟨λc=>match idxN C c with | some i=>X i | none=>ι c,λc i hc=>by simp only[hc],λc hc=>by simp only[hc]⟩
 obtain⟨O,Y,Z⟩:=hι';have hat:∀b,b<ρ.length+g->O (getN C b)=X b:=λb E=>Y _ _ (hidx E);have hI:lg O C=X:=by
  funext b;rcases aJ b (ρ.length+g)with E | E
  ·rw[lu (by rw[F];exact E),hat b E]
  ·have U:lg O C b=none:=by
    cases hc:lg O C b with
    | none=>rfl
    | some q=>have:=(du hc).1;omega
   have e2:X b=none:=by
    cases hc:X b with
    | none=>rfl
    | some q=>have:=g1.low b q hc;omega
   rw[U,e2]
 have W:∀b,b<ρ.length->b<rb->X b=ι (getN ρ b):=λb G Q=>by rw[d1 b G Q,lu G]
 have J:∀{c i},idxN C c=some i->(i<ρ.length/\c=getN ρ i)\/(∃j,i=ρ.length+j/\j<g/\c=fr+j):=by
  intro c i hi;obtain⟨G,Q⟩:=pi hi;rcases aJ i ρ.length with h | h
  ·exact .inl ⟨h,by rw[<-Q,hold i h]⟩
  ·refine .inr ⟨i - ρ.length,by omega,by omega,?_⟩;rw[<-Q,<-hnew (i - ρ.length) (by omega)];congr 1;omega
 have hheap:∀c q,ι c=some (some q)->(∀i,idxN C c=some i->i<ro)->w'.heap[q.r]?=w.heap[q.r]?:=by
  intro c q hc hno;refine g2.blk q.r (hW.dom c q hc) λb p E hr=>?_;have h0:=qd E;obtain⟨a1,a2⟩:=du h0;have hge:ro<=b:=by
   unfold roI at E;rcases aJ b ro with h' | h'
   ·rw[show Nat.blt b ro=true from cD h']at E;cases E
   ·exact h'
  have hcb:c=getN ρ b:=(hW.inj _ _ _ _ hc a2 hr.symm).resolve_right λhh=>by have:=hf0 b p h0 hh.2;omega
  have hlt:=hno b (by rw[hcb,<-hold b a1];exact hidx (by omega));unfold roI at E;rw[show Nat.blt b ro=true from cD hlt]at E;cases E
 refine⟨O,λc hk hc=>?_,λc q hk hc=>?_,λc q G Q hc=>?_,λc q hc hq=>?_,⟨λc c' q q' U e2 e3=>?_,λc q hc=>?_,λc q hc=>?_,λc blk hl hd=>?_⟩,⟨g2.os,g2.tape,g2.output,g2.size,λk hk hno=>g2.blk k hk λb q E hr=>?_⟩,?_⟩
 ·cases hi:idxN C c with
  | none=>exact Z c hi
  | some i=>
   rw[Y c i hi];rcases J hi with⟨G,rfl⟩ | ⟨j,_,Q,rfl⟩
   ·refine W i G ?_;rcases aJ i rb with h | h
    ·exact h
    ·rw[CW.2 (Ap h G)]at hk;cases hk
   ·simp only at hc;omega
 ·obtain⟨i,G,Q,rfl⟩:=E9 (CW.1 hk);have:O (getN ρ i)=X i:=by rw[<-hold i Q];exact hat i (by omega)
  rw[this]at hc;rcases d2 i q hc with⟨q',U,e2⟩ | h
  ·exact .inl ⟨q',(du U).2,e2⟩
  ·exact .inr h
 ·simp only at Q;have hcj:c=getN C (ρ.length+(c - fr)):=by rw[hnew _ (by omega)];omega
  rw[hcj,hat _ (by omega)]at hc;rcases d2 _ q hc with⟨q',U,_⟩ | h
  ·have:=(du U).1;omega
  ·exact h
 ·cases hi:idxN C c with
  | none=>rw[Z c hi]at hc;exact hc
  | some i=>
   rw[Y c i hi]at hc;have hlt:=g1f i q hc hq;rcases J hi with⟨G,rfl⟩ | ⟨j,rfl,Q,rfl⟩
   ·rw[<-W i G (by omega)];exact hc
   ·exfalso;rcases d2 _ q hc with⟨p,U,_⟩ | _
    ·have:=(du U).1;omega
    ·omega
 ·have far:∀{c c' i q q'},idxN C c=some i->idxN C c'=none->X i=some (some q)->ι c'=some (some q')->q.r=q'.r->q.fz=true/\q'.fz=true:=by
   intro c c' i q q' G Q h3 h4 h5;rcases d2 i q h3 with⟨p,U,e2⟩ | h
   ·obtain⟨a1,a2⟩:=du U;rcases hW.inj _ _ _ _ a2 h4 (e2.trans h5)with this | ⟨z1,z2⟩
    ·rw[<-this,<-hold i a1,hidx (by omega)]at Q;cases Q
    ·have hlt:=hf0 i p U z1;have:=d1 i a1 (by omega);rw[h3,U]at this;simp only[aq]at this;exact⟨by rw[this];exact z1,z2⟩
   ·have:=hW.dom c' q' h4;omega
  cases hi:idxN C c with
  | none=>
   rw[Z c hi]at U;cases hi':idxN C c' with
   | none=>rw[Z c' hi']at e2;exact hW.inj _ _ _ _ U e2 e3
   | some i'=>rw[Y c' i' hi']at e2;exact .inr (far hi' hi e2 U e3.symm).symm
  | some i=>
   rw[Y c i hi]at U;cases hi':idxN C c' with
   | none=>rw[Z c' hi']at e2;exact .inr (far hi hi' U e2 e3)
   | some i'=>
    rw[Y c' i' hi']at e2;refine(g1.inj _ _ _ _ U e2 e3).imp (λthis=>?_) id;rw[<-(pi hi).2,<-(pi hi').2,this]
 ·simp only;cases hi:idxN C c with
  | none=>
   rw[Z c hi]at hc;have:=hW.low c q hc;omega
  | some i=>
   rcases J hi with⟨G,rfl⟩ | ⟨j,_,Q,rfl⟩
   ·obtain⟨p,hp⟩:=hmap i G;have:=hW.low _ _ hp;omega
   ·omega
 ·cases hi:idxN C c with
  | none=>
   rw[Z c hi]at hc;have:=hW.dom c q hc;omega
  | some i=>rw[Y c i hi]at hc;exact g1.dom i q hc
 ·simp only at hl;rw[qo]at hl;cases hlr:look (renH C out.H) c with
  | some x=>
   rw[hlr]at hl;simp only[Option.some_or,aq]at hl;subst hl;obtain⟨b,blk',rfl,E,hlb,rfl⟩:=ER hnd (λq hq=>by rw[F];exact hko q hq) hlr;rw[F]at E;refine(g1.blk b blk' hlb (λe=>hd (Blk.ren_dead.2 e))).map (hat b E) (λ_ _=>rfl) (λq o hbr=>?_) (λt e=>Blk.ren_nil.2 e);rw[<-hI]at hbr;exact(BR.ren (by rw[F];exact hlo b blk' hlb)).2 hbr
  | none=>
   rw[hlr]at hl;simp only[Gq]at hl;rw[vt]at hl;cases hl0:look H c with
   | none=>rw[hl0]at hl;cases hl
   | some y=>
    rw[hl0]at hl;simp only[fh,aq]at hl;subst hl;have hlt:∀i,idxN C c=some i->i<ro:=by
     intro i hi;rcases aJ i ro with h | h
     ·exact h
     ·exfalso;obtain⟨G,Q⟩:=pi hi;rw[F]at G;obtain⟨v,hv'⟩:=sc (hw i h G);have:=wH hnd (λq hq=>by rw[F];exact hko q hq) hv';rw[Q,hlr]at this;cases this
    have hιc:O c=ι c:=by
     cases hi:idxN C c with
     | none=>exact Z c hi
     | some i=>
      rw[Y c i hi];have hlti:=hlt i hi;rcases J hi with⟨G,rfl⟩ | ⟨j,rfl,Q,rfl⟩
      ·exact W i G (by omega)
      ·exfalso;rcases aJ (ρ.length+j) ro with _ | h
       ·have hb0:ι (fr+j)=none:=hfr _ (by omega) (by simp only;omega);rcases hW.blk _ y hl0 (by rintro rfl;exact hd rfl)with⟨q,_,q3,_⟩ | ⟨q3,_⟩<;>(rw[hb0]at q3;cases q3)
       ·omega
    refine(hW.blk c y hl0 (by rintro rfl;exact hd rfl)).map hιc (λq hq=>hheap c q hq hlt) (λq o hbr=>BR.kill (λb E q hq=>?_) hbr) (by rintro t rfl;rfl);cases hi:idxN C b with
    | none=>rw[Z b hi];exact hq
    | some i=>
     rw[Y b i hi];rcases J hi with⟨G,rfl⟩ | ⟨j,_,Q,rfl⟩
     ·rw[W i G ?_];exact hq;rcases aJ i rb with h | h
      ·exact h
      ·rw[CW.2 (Ap h G)]at E;cases E
     ·rw[hfr _ (by omega) (by simp only;omega)]at hq;cases hq
 ·have G:=qd E;obtain⟨a1,a2⟩:=du G;have hge:ro<=b:=by
   unfold roI at E;rcases aJ b ro with h' | h'
   ·rw[show Nat.blt b ro=true from cD h']at E;cases E
   ·exact h'
  refine hno (getN ρ b) q ?_ hr;rw[ED (by rw[Dl];exact eF.2 ⟨b,hw b hge (by omega),hold b a1⟩)];exact a2
 ·rw[<-hI]at g3;cases e with
  | returned x=>exact⟨g3.1,(VR.ren _ _ (by rw[F];exact hv)).2 g3.2⟩
  | panicked chain=>
   obtain⟨p1,x,p2,p3⟩:=g3;exact⟨p1,x,p2,(VR.ren _ _ (by rw[F];exact hv)).2 p3⟩
  | outgrown=>exact g3
def funE{A R:Type}(f rb:Nat)(b:List V->List (Nat×Blk)->Option (A×List Nat))(sh:A->Option R)(a:(α:Type)->R->(FOut->Option α)->Option α):Ent:=
 ⟨f,λα args H fr k=>ob (b args H) λp=>ob (sh p.1) λr=>a α r λo=>
  k { val:=V.ren (p.2++upTo fr o.news.length) o.val,pan:=o.pan,rd:=p.2,wr:=renH (p.2++upTo fr o.news.length) o.H,grow:=o.news.length,kill:=yL rb p.2 }⟩
def Uz{A R:Type}{f m ro rb:Nat}{v:List V->List (Nat×Blk)->Option (A×List Nat)}{sh:A->Option R}{c:(α:Type)->R->(FOut->Option α)->Option α}{out:R->FOut}
  {arg:A->List V} {H0:A->List (Nat×Blk)} (e:lB P f) (o:ro<=rb) (t:ro<=m) (j:∀α r k,c α r k=k (out r))
  (p:∀l H a ρ,v l H=some (a,ρ)->ρ.length=m/\ρ.Nodup/\l=V.rens ρ (arg a)/\∀b blk,look (H0 a) b=some blk->look H (getN ρ b)=some (blk.ren ρ))
  (C:∀a,V.lts m (arg a)=true) (g:∀a b blk,look (H0 a) b=some blk->b<m/\Blk.lt m blk=true) (d:∀a,B6 (H0 a) m=true) (q:∀r,∀b∈keys (out r).H,b<m+(out r).news.length)
  (n:∀r b blk,look (out r).H b=some blk->Blk.lt (m+(out r).news.length) blk=true) (J:∀r b,ro<=b->b<m+(out r).news.length->b∈keys (out r).H) (K:∀r,V.lt (m+(out r).news.length) (out r).val=true)
  (h:∀a r,sh a=some r->xh P f (arg a) (H0 a) m ro rb (out r)):fC P (funE f rb v sh c):=by
 intro α args H fr k z x;simp only[funE]at x;obtain⟨⟨a,ρ⟩,G,s⟩:=ax x;obtain⟨r,F,i⟩:=ax s;rw[j]at i;obtain⟨w,I,D,E⟩:=p args H a ρ G;subst D;refine⟨_,i,λL u=>.inl ⟨e,(h a r F).call o t w I (C a) (g a) (d a) (q r) (n r) (J r) (K r) (λb blk y=>?_) fr⟩⟩;have B:=(g a b blk y).1;rw[u _ (nG (by rw[w];exact B))];exact E b blk y
def QX(Q:Nat->Blk->Prop):List (Nat×Blk)->Prop
 | []=>True
 | (b,x)::l=>Q b x/\QX Q l
def Av{Q:Nat->Blk->Prop}:∀{l:List (Nat×Blk)},QX Q l->∀b x,look l b=some x->Q b x
 | [],_,b,x,h=>by cases h
 | (c,y)::l,h,b,x,a=>by
  rw[aS]at a;split at a
  ·rename_i e;subst e;simp only[aq]at a;subst a;exact h.1
  ·exact Av h.2 b x a
def chkH(m:Nat)(H:List (Nat×Blk)):Bool:=H.all λp=>Nat.blt p.1 m&&Blk.lt m p.2
def rn{m:Nat}:∀{H:List (Nat×Blk)},chkH m H=true->∀b x,look H b=some x->b<m/\Blk.lt m x=true
 | [],_,b,x,h=>by cases h
 | (c,y)::l,h,b,x,a=>by
  simp only[chkH,m7,aB]at h;rw[aS]at a;split at a
  ·rename_i e;subst e;simp only[aq]at a;subst a;exact⟨aI h.1.1,h.1.2⟩
  ·exact rn (H:=l) h.2 b x a
def Fa{m:Nat}{H:List (Nat×Blk)}(h:chkH m H=true):∀b∈keys H,b<m:=by
 intro b a;simp only[keys,eF]at a;obtain⟨p,hp,rfl⟩:=a;simp only[chkH,bS,aB]at h;exact aI (h p hp).1
end Go.Abs
