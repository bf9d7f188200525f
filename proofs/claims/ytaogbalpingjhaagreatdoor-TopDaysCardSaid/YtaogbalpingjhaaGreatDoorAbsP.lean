
/- Functions that take addresses: their contract over any memory that holds what they look at.
   Conditions: none; generic over the program. -/
import Derived.Test.YtaogbalpingjhaaGreatDoorAbsO
set_option linter.unusedSimpArgs false
set_option linter.unusedVariables false
namespace Go.Abs
variable {P:Program}
mutual
def V.ren (ρ:List Nat):V->V
 | .p c o=>.p (getN ρ c) o
 | .sl c o n m=>.sl (getN ρ c) o n m
 | .pr z c j o=>.pr z (getN ρ c) j o
 | .ws c=>.ws (getN ρ c)
 | .mp c=>.mp (getN ρ c)
 | .rs z c j n m=>.rs z (getN ρ c) j n m
 | .unk=>.unk
 | .fn f l=>.fn f (V.rens ρ l)
 | .ag l=>.ag (V.rens ρ l)
 | .tp l=>.tp (V.rens ρ l)
 | .it t v=>.it t (V.ren ρ v)
 | .b x=>.b x
 | .i k n=>.i k n
 | .s l=>.s l
 | .pn=>.pn
 | .sn=>.sn
 | .nf=>.nf
 | .ni=>.ni
 | .ai k n l=>.ai k n l
def V.rens (ρ:List Nat):List V->List V
 | []=>[]
 | v::l=>V.ren ρ v::V.rens ρ l
end
def Blk.ren (ρ:List Nat):Blk->Blk
 | .cells l=>.cells (V.rens ρ l)
 | .dead=>.dead
 | .rows t l=>.rows t l
 | .ints k n l=>.ints k n l
 | .iter s pos=>.iter s pos
 | .mp k l=>.mp k l
def renH (ρ:List Nat):List (Nat×Blk)->List (Nat×Blk)
 | []=>[]
 | (b,x)::l=>(getN ρ b,x.ren ρ)::renH ρ l
def gh (ι:Inj) (ρ:List Nat):Inj:=λb=>cond (Nat.blt b ρ.length) (ι (getN ρ b)) none
theorem gk {ι:Inj} {ρ:List Nat} {b:Nat} (h:b<ρ.length):gh ι ρ b=ι (getN ρ b):=by
 have:Nat.blt b ρ.length=true:=cZ h;simp [gh,this]
theorem bE {ι:Inj} {ρ:List Nat} {b:Nat} {r:Option Rf} (h:gh ι ρ b=some r):b<ρ.length/\ι (getN ρ b)=some r:=by
 unfold gh at h;cases a:Nat.blt b ρ.length with
 | true=>rw [a] at h;exact ⟨ax a,h⟩
 | false=>rw [a] at h;cases h
mutual
theorem VR.ren {ι:Inj} {ρ:List Nat}:∀(v:V) (x:Value),V.lt ρ.length v=true->(VR ι (V.ren ρ v) x↔VR (gh ι ρ) v x)
 | .b _,_,_ | .i _ _,_,_ | .s _,_,_ | .pn,_,_ | .sn,_,_ | .nf,_,_ | .ni,_,_ | .ai _ _ _,_,_ | .unk,_,_=>by simp only [V.ren,VR]
 | .p c o,x,h | .pr z c j o,x,h | .ws c,x,h | .rs z c j n _,x,h | .mp c,x,h=>by
  simp only [V.lt] at h;simp only [V.ren,VR,gk (ι:=ι) (ax h:c<ρ.length)]
 | .sl c o n m,x,h=>by
  simp only [V.lt] at h;simp only [V.ren,VR,gk (ι:=ι) (ax h:c<ρ.length)]
 | .fn f l,x,h=>by
  simp only [V.lt] at h;simp only [V.ren,VR];exact kC λA=>oZ λ_=>VRs.ren l A.toList h
 | .it t v,x,h=>by
  simp only [V.lt] at h;simp only [V.ren,VR];exact kC λy=>oZ λ_=>VR.ren v y h
 | .ag l,x,h=>by
  simp only [V.lt] at h;simp only [V.ren,VR];exact kC λA=>oZ λ_=>VRs.ren l A.toList h
 | .tp l,x,h=>by
  simp only [V.lt] at h;simp only [V.ren,VR];exact kC λA=>oZ λ_=>VRs.ren l A.toList h
theorem VRs.ren {ι:Inj} {ρ:List Nat}:∀(l:List V) (A:List Value),V.lts ρ.length l=true->(VRs ι (V.rens ρ l) A↔VRs (gh ι ρ) l A)
 | [],_,_=>by simp [V.rens,VRs]
 | v::l,A,h=>by
  simp only [V.lts,av] at h;simp only [V.rens,VRs];exact kC λy=>kC λC=>oZ λ_=>and_congr (VR.ren v y h.1) (VRs.ren l C h.2)
end
theorem BR.ren {ι:Inj} {ρ:List Nat} {q:Rf}:∀{blk:Blk} {o:Obj},Blk.lt ρ.length blk=true->(BR ι q (blk.ren ρ) o↔BR (gh ι ρ) q blk o)
 | .dead,_,_ | .ints _ _ _,_,_ | .iter _ _,_,_ | .rows _ _,_,_ | .mp _ _,_,_=>by simp [Blk.ren,BR]
 | .cells l,o,h=>by
  simp only [Blk.lt] at h;simp only [Blk.ren,BR];exact kC λA=>kC λe=>kC λfr=>oZ λ_=>and_congr_left λ_=>VRs.ren l A.toList h
theorem Blk.ren_nil {ρ:List Nat} {blk:Blk} {t:List Lf}:blk.ren ρ=.rows t []↔blk=.rows t []:=by
 cases blk<;>simp [Blk.ren]
theorem Blk.ren_dead {ρ:List Nat} {blk:Blk}:blk.ren ρ=.dead↔blk=.dead:=by
 cases blk<;>simp [Blk.ren]
def uk (H:List (Nat×Blk)):Nat->Bool
 | 0=>true
 | m+1=>(match look H m with | some .dead=>false | some _=>true | none=>false)&&uk H m
theorem ov {H:List (Nat×Blk)}:∀{m:Nat},uk H m=true->∀b,b<m->∃blk,look H b=some blk/\blk≠.dead
 | 0,_,b,f=>by omega
 | m+1,h,b,f=>by
  simp only [uk,av] at h;by_cases a:b=m
  ·subst a;have c:=h.1;split at c
   ·cases c
   ·rename_i blk d g;exact ⟨blk,g,λe=>d (by rw [e])⟩
   ·cases c
  ·exact ov h.2 b (by omega)
theorem i7:∀{l:List Nat} {b:Nat},b<l.length->getN l b∈l
 | [],_,h=>by simp at h
 | x::l,0,_=>by simp [getN]
 | x::l,b+1,h=>by simp only [getN];exact iL _ (i7 (by simpa using h))
theorem l8:∀{l:List Nat} {b c:Nat},l.Nodup->b<l.length->c<l.length->getN l b=getN l c->b=c
 | [],_,_,_,h,_,_=>by simp at h
 | x::l,0,0,_,_,_,_=>rfl
 | x::l,0,c+1,a,_,hc,h=>by
  simp only [getN] at h;have:=i7 (l:=l) (b:=c) (by simpa using hc);rw [<-h] at this;exact absurd this (qi.1 a).1
 | x::l,b+1,0,a,d,_,h=>by
  simp only [getN] at h;have:=i7 (l:=l) (b:=b) (by simpa using d);rw [h] at this;exact absurd this (qi.1 a).1
 | x::l,b+1,c+1,a,d,hc,h=>by
  simp only [getN] at h;have:=l8 (qi.1 a).2 (by simpa using d) (by simpa using hc) h;omega
theorem vP {ρ:List Nat} (k:ρ.Nodup):∀{H:List (Nat×Blk)} {c:Nat} {blk:Blk},(∀b∈keys H,b<ρ.length)->look (renH ρ H) c=some blk->∃b a,c=getN ρ b/\b<ρ.length/\look H b=some a/\blk=a.ren ρ
 | [],c,blk,_,h=>by simp [renH,look] at h
 | (b,x)::H,c,blk,i,h=>by
  simp only [renH,aF] at h;split at h
  ·rename_i e;simp only [ae] at h;exact ⟨b,x,e.symm,i b (by simp [keys]),by simp [aF],h.symm⟩
  ·rename_i e;obtain ⟨d,y,g,m,j,l⟩:=vP k (λq n=>i q (by simp only [keys,fU,cY];exact .inr n)) h;refine ⟨d,y,g,m,?_,l⟩;rw [aF,ab (λf=>e (by rw [f,g])),j]
theorem vQ (ρ:List Nat):∀H:List (Nat×Blk),keys (renH ρ H)=(keys H).map (getN ρ)
 | []=>rfl
 | (b,x)::H=>by
  have:=vQ ρ H;simp only [keys] at this ⊢;simp [renH,this]
theorem vz {wr:List (Nat×Blk)} {ι:Inj} {b:Nat} (h:b∈keys wr):py wr ι b=ι b:=by
 unfold py;rw [ad];simp only [keys,eC] at h;obtain ⟨x,a,rfl⟩:=h;exact mC.2 ⟨x,a,by simp⟩
theorem uy {ρ:List Nat}:∀{H:List (Nat×Blk)} {b:Nat} {v:Blk},look H b=some v->(getN ρ b,v.ren ρ)∈renH ρ H
 | [],_,_,h=>by cases h
 | (c,x)::H,b,v,h=>by
  rw [aF] at h;simp only [renH];split at h
  ·rename_i e;subst e;simp only [ae] at h;subst h;exact A8
  ·exact iL _ (uy h)
theorem qm {ρ:List Nat} (g:ρ.Nodup):∀{H:List (Nat×Blk)} {b:Nat} {blk:Blk},(∀b∈keys H,b<ρ.length)->look H b=some blk->look (renH ρ H) (getN ρ b)=some (blk.ren ρ)
 | [],b,blk,_,h=>by cases h
 | (c,x)::H,b,blk,f,h=>by
  have i:b<ρ.length:=by
   refine f b ?_;have:b∈((c,x)::H).map (·.1):=by
    by_cases a:b∈((c,x)::H).map (·.1)
    ·exact a
    ·rw [lH a] at h;cases h
   exact this
  have hc:c<ρ.length:=f c (by simp [keys]);rw [aF] at h;simp only [renH,aF];split at h
  ·rename_i e;subst e;simp only [ae] at h;subst h;rw [ad rfl]
  ·rename_i d;rw [ab (λe=>d (l8 g hc i e))];exact qm g (λq j=>f q (by simp only [keys,fU,cY];exact .inr j)) h
structure FOut where
 pan:Bool
 val:V
 H:List (Nat×Blk)
 news:List Nat:=[]
def zH (P:Program) (f:Nat) (args:List V) (H0:List (Nat×Blk)) (m ro rb:Nat) (out:FOut):Prop:=
 ∀(ι0:Inj) (w:World) (a:Array Value),WR ι0 H0 m w->(∀b q,ι0 b=some (some q)->q.fz=true->b<ro)->GL (roI ι0 ro) w->VRs ι0 args a.toList->
  Calls P f a w λe w'=>∃ι:Inj,(∀b,b<m->b<rb->ι b=ι0 b)/\(∀b q,ι b=some (some q)->(∃c,ι0 b=some (some c)/\c.r=q.r)\/w.heap.size<=q.r)/\
   WR ι out.H (m+out.news.length) w'/\(∀b q,ι b=some (some q)->q.fz=true->b<ro)/\Fr (roI ι0 ro) w w'/\RetR ι { val:=out.val,pan:=out.pan } e
def It (m c:Nat) (a:List Nat):List Nat:=cond (Nat.blt c m) a (cond (a.any (Nat.beq c)) a (a++[c]))
mutual
def V.news (m:Nat):V->List Nat->List Nat
 | .p c _,A | .sl c _ _ _,A | .pr _ c _ _,A | .ws c,A | .rs _ c _ _ _,A | .mp c,A=>It m c A
 | .fn _ l,A | .ag l,A | .tp l,A=>V.newss m l A
 | .it _ v,A=>V.news m v A
 | .b _,A | .i _ _,A | .s _,A | .pn,A | .sn,A | .nf,A | .ni,A | .ai _ _ _,A | .unk,A=>A
def V.newss (m:Nat):List V->List Nat->List Nat
 | [],A=>A
 | v::l,A=>V.newss m l (V.news m v A)
end
def wZ (m:Nat) (H:List (Nat×Blk)):List Nat->List Nat->List Nat
 | [],a=>a
 | b::l,a=>match look H b with
  | some (.cells c)=>wZ m H l (V.newss m c a)
  | _=>wZ m H l a
def upTo:Nat->Nat->List Nat
 | _,0=>[]
 | b,n+1=>b::upTo (b+1) n
def eD:List Nat->Bool
 | []=>true
 | x::l=>l.all (λy=>!Nat.beq x y)&&eD l
theorem ky:∀{l:List Nat},eD l=true->l.Nodup
 | [],_=>List.nodup_nil
 | x::l,h=>by
  simp only [eD,av,bz] at h;refine qi.2 ⟨λa=>?_,ky h.2⟩;have:=h.1 x a;simp at this
def funX {R:Type} (ws:List Nat) (m ro rb:Nat) (a:Bool->V->List (Nat×Blk)->List Nat->Option R):Bool->V->St->Option R:=
 λpan v s=>match V.newss m [v] (wZ m s.H ws []) with
  | nw=>match eD nw&&(nw.all (Nat.ble m)&&(Nat.beq s.ro ro&&Nat.beq s.rb rb)) with
   | true=>E7 s.nb s.H (ws++nw) λH=>a pan v H nw
   | false=>none
theorem kF:∀(n b:Nat),(upTo b n).length=n
 | 0,_=>rfl
 | n+1,b=>by simp [upTo,kF n]
theorem pX:∀(n b c:Nat) (l:List Nat),c<n->getN (upTo b n++l) c=b+c
 | 0,_,_,_,h=>by omega
 | n+1,b,0,l,_=>rfl
 | n+1,b,c+1,l,h=>by
  simp only [upTo,jr,getN,pX n (b+1) c l (by omega)];omega
theorem iU:∀{n b c:Nat},c∈upTo b n↔b<=c/\c<b+n
 | 0,b,c=>by simp only [upTo,mR,false_iff];omega
 | n+1,b,c=>by
  simp only [upTo,cY,iU (n:=n)];omega
theorem mh:∀(n b:Nat),(upTo b n).Nodup
 | 0,_=>List.nodup_nil
 | n+1,b=>qi.2 ⟨λh=>by have:=iU.1 h;omega,mh n (b+1)⟩
theorem fk:∀(l k:List Nat) (c:Nat),getN (l++k) (l.length+c)=getN k c
 | [],k,c=>by simp
 | x::l,k,c=>by
  rw [ci,show l.length+1+c=(l.length+c)+1 by omega];simp only [jr,getN,fk l k c]
theorem jG:∀(l k:List Nat) (c:Nat),c<l.length->getN (l++k) c=getN l c
 | [],k,c,h=>by simp at h
 | x::l,k,0,_=>rfl
 | x::l,k,c+1,h=>by simp only [jr,getN,jG l k c (by simpa using h)]
theorem HS {R:Type} {ws:List Nat} {m ro rb:Nat} {un:Bool->V->List (Nat×Blk)->List Nat->Option R} {out:R->FOut}
  (hun:∀pan v H d r,un pan v H d=some r->(out r).pan=pan/\(out r).news.length=d.length/\v=V.ren (upTo 0 m++d) (out r).val/\H=renH (upTo 0 m++d) (out r).H)
  (hv:∀r,V.lt (m+(out r).news.length) (out r).val=true) (hH:∀r b blk,look (out r).H b=some blk->Blk.lt (m+(out r).news.length) blk=true)
  (hk:∀r,∀b∈keys (out r).H,b<m+(out r).news.length)
  (L:ro<=m) {f:Nat} {args:List V} {H0:List (Nat×Blk)} {r:R} (G:uk H0 m=true) (D:tP P f args H0 m ro (funX ws m ro rb un) r):zH P f args H0 m ro rb (out r):=by
 intro ι0 w xs hW W hgl Q;refine (D ι0 w xs hW W hgl Q).mono λe w' ⟨pan,u,s,ι,n,h2,h3,h4,X,h5,O⟩=>?_;unfold funX at n;simp only at n;split at n
 case h_2=>cases n
 rename_i k;simp only [av,eM,bz] at k;obtain ⟨E,B,J,Z⟩:=k;obtain ⟨H',g1,g2⟩:=xz n;obtain ⟨Y,p2,p3,p4⟩:=hun _ _ _ _ _ g1;generalize hnw:V.newss m [u] (wZ m s.H ws [])=d at *;subst Y;have c:(upTo 0 m++d).length=m+(out r).news.length:=by rw [iQ,kF,p2]
 have I:(upTo 0 m++d).Nodup:=by
  refine A6.2 ⟨mh m 0,ky E,λa ha b k hab=>?_⟩;subst hab;have n:=(iU.1 ha).2;have h2:=ax (B a k);omega
 have j:∀b,b<m->getN (upTo 0 m++d) b=b:=λb k=>by rw [pX m 0 b _ k];omega
 have A:∀b,m<=b->ι0 b=none:=by
  intro b k;cases hi:ι0 b with
  | none=>rfl
  | some q=>have:=hW.low b q hi;omega
 have g:∀{b q},gh ι (upTo 0 m++d) b=some q->b<m+(out r).news.length/\ι (getN (upTo 0 m++d) b)=some q:=λh=>by
  have:=bE h;rwa [c] at this
 refine ⟨gh ι (upTo 0 m++d),λb n h1'=>?_,λb q K=>?_,⟨λb b' q q' e1 p S=>?_,λb q e=>(g e).1,λb q e=>h4.dom _ _ (g e).2,λb blk T hd=>?_⟩,λb q e K=>?_,by rw [J] at h5;exact h5,?_⟩
 ·rw [gk (by rw [c];omega),j b n];obtain ⟨blk,q1,q2⟩:=ov G b n;have hs:∃q,ι0 b=some q:=by
   rcases hW.blk b blk q1 q2 with ⟨q,_,C,_⟩ | ⟨C,_⟩
   ·exact ⟨_,C⟩
   ·exact ⟨_,C⟩
  obtain ⟨q,C⟩:=hs;rcases h2 b q C with h | h
  ·rw [h,C]
  ·rw [Z] at h;omega
 ·obtain ⟨e1,p⟩:=g K;by_cases z:b<m
  ·rw [j b z] at p;exact h3 b q p
  ·rcases h3 _ q p with ⟨q',S,_⟩ | h
   ·obtain ⟨i,rfl⟩:∃i,b=m+i:=⟨b - m,by omega⟩;have F:=fk (upTo 0 m) d i;rw [kF] at F;rw [F,A _ (ax (B _ (i7 (by omega))))] at S;cases S
   ·exact .inr h
 ·obtain ⟨a1,a2⟩:=g e1;obtain ⟨b1,b2⟩:=g p;exact (h4.inj _ _ _ _ a2 b2 S).imp (l8 I (by rw [c];exact a1) (by rw [c];exact b1)) id
 ·have k:b<m+(out r).news.length:=hk r b (by
   by_cases y:b∈(out r).H.map (·.1)
   ·exact y
   ·rw [lH y] at T;cases T)
  have M:=qm I (λq K=>by rw [c];exact hk r q K) T;rw [<-p4] at M;obtain ⟨q1,_,_⟩:=g2 _ _ M;exact (h4.blk _ _ q1 (λe=>hd (Blk.ren_dead.1 e))).map (gk (by rw [c];exact k)) (λ_ _=>rfl) (λq o hbr=>(BR.ren (by rw [c];exact hH r b blk T)).1 hbr) (λt e=>Blk.ren_nil.1 e)
 ·obtain ⟨e1,p⟩:=g e;have:=X _ q p K;rw [J] at this;by_cases z:b<m
  ·rwa [j b z] at this
  ·exfalso;obtain ⟨i,rfl⟩:∃i,b=m+i:=⟨b - m,by omega⟩;have F:=fk (upTo 0 m) d i;rw [kF] at F;rw [F] at this p;have hge':=ax (B _ (i7 (l:=d) (b:=i) (by omega)));have L:ro<=m:=L;omega
 ·have N:∀x,VR ι u x->VR (gh ι (upTo 0 m++d)) (out r).val x:=by
   intro x Q;rw [p3] at Q;exact (VR.ren _ x (by rw [c];exact hv r)).1 Q
  cases e with
  | returned x=>exact ⟨O.1,N x O.2⟩
  | panicked U=>
   obtain ⟨Y,x,p2,p3⟩:=O;exact ⟨Y,x,p2,N x p3⟩
  | outgrown=>exact O
def idxN:List Nat->Nat->Option Nat
 | [],_=>none
 | x::l,c=>if x=c then some 0 else (idxN l c).map (·+1)
theorem kh:∀{l:List Nat} {c i:Nat},idxN l c=some i->i<l.length/\getN l i=c
 | [],c,i,h=>by cases h
 | x::l,c,i,h=>by
  simp only [idxN] at h;split at h
  ·rename_i e;simp only [ae] at h;subst h;exact ⟨by simp,e⟩
  ·cases a:idxN l c with
   | none=>simp [a] at h
   | some j=>
    simp only [a,cK,ae] at h;subst h;obtain ⟨d,b⟩:=kh a;exact ⟨by simp;omega,by simp only [getN,b]⟩
theorem FW {l:List Nat} (d:l.Nodup) {i:Nat} (h:i<l.length):idxN l (getN l i)=some i:=by
 cases hi:idxN l (getN l i) with
 | none=>
  exfalso;have:∀(l:List Nat) (c:Nat),c∈l->idxN l c≠none:=by
   intro l
   induction l with
   | nil=>intro c h;simp at h
   | cons x l ih=>
    intro c hc;simp only [idxN];split
    ·simp
    ·rename_i a;simp only [cY] at hc;have:=ih c (hc.resolve_left λe=>a e.symm);cases g:idxN l c with
     | none=>exact absurd g this
     | some _=>simp
  exact this l _ (i7 h) hi
 | some j=>
  obtain ⟨b,f⟩:=kh hi;rw [l8 d b h f]
def qI (rb:Nat) (ρ:List Nat):List Nat:=ρ.drop rb
theorem sS {ρ:List Nat}:∀{rb i:Nat},rb<=i->i<ρ.length->getN ρ i∈qI rb ρ:=by
 unfold qI
 induction ρ with
 | nil=>intro rb i _ h;simp at h
 | cons x l ih=>
  intro rb i b a;cases rb with
  | zero=>exact i7 a
  | succ rb=>
   cases i with
   | zero=>omega
   | succ i=>
    simp only [sZ,getN];exact ih (by omega) (by simpa using a)
theorem vB {ρ:List Nat}:∀{rb c:Nat},c∈qI rb ρ->∃i,rb<=i/\i<ρ.length/\getN ρ i=c:=by
 unfold qI
 induction ρ with
 | nil=>intro rb c h;simp at h
 | cons x l ih=>
  intro rb c h;cases rb with
  | zero=>
   have:∀(l:List Nat),c∈l->∃i,0<=i/\i<l.length/\getN l i=c:=by
    intro l
    induction l with
    | nil=>intro h;simp at h
    | cons y l b=>
     intro h;rcases cY.1 h with rfl | h
     ·exact ⟨0,aL _,by simp,rfl⟩
     ·obtain ⟨i,_,d,a⟩:=b h;exact ⟨i+1,by omega,by simpa using d,a⟩
   exact this _ (by simpa using h)
  | succ rb=>
   simp only [sZ] at h;obtain ⟨i,e,d,a⟩:=ih h;exact ⟨i+1,by omega,by simpa using d,a⟩
theorem tV {K:List Nat} {b:Nat}:isIn K b=true↔b∈K:=by
 unfold isIn;rw [mC];constructor
 ·rintro ⟨x,c,a⟩;rw [aS a];exact c
 ·intro h;exact ⟨b,h,by simp⟩
theorem zH.call {f:Nat} {args:List V} {H0:List (Nat×Blk)} {m ro rb:Nat} {out:FOut} (h:zH P f args H0 m ro rb out) (hrr:ro<=rb) (hrm:ro<=m) {ρ:List Nat} (hm:ρ.length=m) (hn:ρ.Nodup)
  (ha:V.lts m args=true) (hk0:∀b blk,look H0 b=some blk->b<m/\Blk.lt m blk=true) (hall:uk H0 m=true) (hko:∀b∈keys out.H,b<m+out.news.length) (hlo:∀b blk,look out.H b=some blk->Blk.lt (m+out.news.length) blk=true)
  (hw:∀b,ro<=b->b<m+out.news.length->b∈keys out.H) (hv:V.lt (m+out.news.length) out.val=true) {H:List (Nat×Blk)} (hH:∀b blk,look H0 b=some blk->look H (getN ρ b)=some (blk.ren ρ)) (fr:Nat):
  yc P f (V.rens ρ args) H fr { val:=V.ren (ρ++upTo fr out.news.length) out.val,pan:=out.pan,rd:=ρ,wr:=renH (ρ++upTo fr out.news.length) out.H,grow:=out.news.length,kill:=qI rb ρ }:=by
 subst hm;intro ι nb w xs hW hgl hfw hfr hx;have hmap:∀b,b<ρ.length->∃q,ι (getN ρ b)=some q:=by
  intro b C;obtain ⟨blk,q1,q2⟩:=ov hall b C;rcases hW.blk (getN ρ b) (blk.ren ρ) (hH b blk q1) (λe=>q2 (Blk.ren_dead.1 e)) with ⟨q,_,q3,_⟩ | ⟨q3,_⟩
  ·exact ⟨_,q3⟩
  ·exact ⟨_,q3⟩
 have hWI:WR (gh ι ρ) H0 ρ.length w:=by
  refine ⟨λb b' q q' K e2 e3=>?_,λb q e=>(bE e).1,λb q e=>hW.dom _ _ (bE e).2,λb blk hl hd=>?_⟩
  ·obtain ⟨a1,a2⟩:=bE K;obtain ⟨b1,b2⟩:=bE e2;exact (hW.inj _ _ _ _ a2 b2 e3).imp (l8 hn a1 b1) id
  ·obtain ⟨c1,c2⟩:=hk0 b blk hl;exact (hW.blk (getN ρ b) (blk.ren ρ) (hH b blk hl) (λe=>hd (Blk.ren_dead.1 e))).map (gk c1) (λ_ _=>rfl) (λ_ _ hbr=>(BR.ren c2).1 hbr) (λt e=>Blk.ren_nil.1 e)
 have hf0:∀b q,gh ι ρ b=some (some q)->q.fz=true->b<ro:=by
  intro b q C X;rcases aA b ro with h | h
  ·exact h
  ·exfalso;obtain ⟨a1,a2⟩:=bE C;obtain ⟨v,hv'⟩:=md (hw b h (by omega));have hkey:(getN (ρ++upTo fr out.news.length) b,v.ren (ρ++upTo fr out.news.length))∈renH (ρ++upTo fr out.news.length) out.H:=uy hv';have:=hfw _ hkey q (by simp only;rw [jG _ _ _ a1];exact a2);rw [this] at X;cases X
 have hgl0:GL (roI (gh ι ρ) ro) w:=hgl.mono λb q C=>by
  obtain ⟨a1,a2⟩:=bE (kN C);obtain ⟨v,hv'⟩:=md (hw b (Dt C) (by omega));have hkey:(getN (ρ++upTo fr out.news.length) b,v.ren (ρ++upTo fr out.news.length))∈renH (ρ++upTo fr out.news.length) out.H:=uy hv';rw [jG _ _ _ a1] at hkey;exact .inl ⟨_,q,by rw [vz (eC.2 ⟨_,hkey,rfl⟩)];exact a2,rfl⟩
 refine (h (gh ι ρ) w xs hWI hf0 hgl0 ((VRs.ren args _ ha).1 hx)).mono λe w' ⟨Q,d1,d2,g1,g1f,g2,g3⟩=>?_;have hsz:=g2.size;generalize hg:out.news.length=g at *;generalize hρ:ρ++upTo fr g=A at *;have E:A.length=ρ.length+g:=by rw [<-hρ,iQ,kF]
 have Y:∀b,b<ρ.length->getN A b=getN ρ b:=λb C=>by rw [<-hρ,jG _ _ _ C]
 have hnew:∀i,i<g->getN A (ρ.length+i)=fr+i:=λi hi=>by
  rw [<-hρ,fk];have:=pX g fr i [] hi;rwa [xZ] at this
 have hnd:A.Nodup:=by
  rw [<-hρ];refine A6.2 ⟨hn,mh g fr,λa ha b C hab=>?_⟩;subst hab;obtain ⟨F,M⟩:=iU.1 C;obtain ⟨i,_,hi1,hi2⟩:=vB (rb:=0) (ρ:=ρ) (c:=a) (by simpa [qI] using ha);obtain ⟨q,X⟩:=hmap i hi1;rw [hi2,hfr a F M] at X;cases X
 have hidx:∀{b},b<ρ.length+g->idxN A (getN A b)=some b:=λC=>FW hnd (by rw [E];exact C);have hι':∃J:Inj,(∀c i,idxN A c=some i->J c=Q i)/\(∀c,idxN A c=none->J c=ι c):=
  ⟨λc=>match idxN A c with | some i=>Q i | none=>ι c,λc i hc=>by simp only [hc],λc hc=>by simp only [hc]⟩
 obtain ⟨J,O,U⟩:=hι';have hat:∀b,b<ρ.length+g->J (getN A b)=Q b:=λb C=>O _ _ (hidx C);have hI:gh J A=Q:=by
  funext b;rcases aA b (ρ.length+g) with C | C
  ·rw [gk (by rw [E];exact C),hat b C]
  ·have K:gh J A b=none:=by
    cases hc:gh J A b with
    | none=>rfl
    | some q=>have:=(bE hc).1;omega
   have e2:Q b=none:=by
    cases hc:Q b with
    | none=>rfl
    | some q=>have:=g1.low b q hc;omega
   rw [K,e2]
 have W:∀b,b<ρ.length->b<rb->Q b=ι (getN ρ b):=λb F M=>by rw [d1 b F M,gk F]
 have G:∀{c i},idxN A c=some i->(i<ρ.length/\c=getN ρ i)\/(∃j,i=ρ.length+j/\j<g/\c=fr+j):=by
  intro c i hi;obtain ⟨F,M⟩:=kh hi;rcases aA i ρ.length with h | h
  ·exact .inl ⟨h,by rw [<-M,Y i h]⟩
  ·refine .inr ⟨i - ρ.length,by omega,by omega,?_⟩;rw [<-M,<-hnew (i - ρ.length) (by omega)];congr 1;omega
 have hheap:∀c q,ι c=some (some q)->(∀i,idxN A c=some i->i<ro)->w'.heap[q.r]?=w.heap[q.r]?:=by
  intro c q hc hno;refine g2.blk q.r (hW.dom c q hc) λb p C hr=>?_;have h0:=kN C;obtain ⟨a1,a2⟩:=bE h0;have hge:ro<=b:=by
   unfold roI at C;rcases aA b ro with h' | h'
   ·rw [show Nat.blt b ro=true from cZ h'] at C;cases C
   ·exact h'
  have hcb:c=getN ρ b:=(hW.inj _ _ _ _ hc a2 hr.symm).resolve_right λhh=>by have:=hf0 b p h0 hh.2;omega
  have hlt:=hno b (by rw [hcb,<-Y b a1];exact hidx (by omega));unfold roI at C;rw [show Nat.blt b ro=true from cZ hlt] at C;cases C
 refine ⟨J,λc hk hc=>?_,λc q hk hc=>?_,λc q F M hc=>?_,λc q hc X=>?_,⟨λc c' q q' K e2 e3=>?_,λc q hc=>?_,λc q hc=>?_,λc blk hl hd=>?_⟩,⟨g2.os,g2.tape,g2.output,g2.size,λk hk hno=>g2.blk k hk λb q C hr=>?_⟩,?_⟩
 ·cases hi:idxN A c with
  | none=>exact U c hi
  | some i=>
   rw [O c i hi];rcases G hi with ⟨F,rfl⟩ | ⟨j,_,M,rfl⟩
   ·refine W i F ?_;rcases aA i rb with h | h
    ·exact h
    ·rw [tV.2 (sS h F)] at hk;cases hk
   ·simp only at hc;omega
 ·obtain ⟨i,F,M,rfl⟩:=vB (tV.1 hk);have:J (getN ρ i)=Q i:=by rw [<-Y i M];exact hat i (by omega)
  rw [this] at hc;rcases d2 i q hc with ⟨q',K,e2⟩ | h
  ·exact .inl ⟨q',(bE K).2,e2⟩
  ·exact .inr h
 ·simp only at M;have hcj:c=getN A (ρ.length+(c - fr)):=by rw [hnew _ (by omega)];omega
  rw [hcj,hat _ (by omega)] at hc;rcases d2 _ q hc with ⟨q',K,_⟩ | h
  ·have:=(bE K).1;omega
  ·exact h
 ·cases hi:idxN A c with
  | none=>rw [U c hi] at hc;exact hc
  | some i=>
   rw [O c i hi] at hc;have hlt:=g1f i q hc X;rcases G hi with ⟨F,rfl⟩ | ⟨j,rfl,M,rfl⟩
   ·rw [<-W i F (by omega)];exact hc
   ·exfalso;rcases d2 _ q hc with ⟨p,K,_⟩ | _
    ·have:=(bE K).1;omega
    ·omega
 ·have far:∀{c c' i q q'},idxN A c=some i->idxN A c'=none->Q i=some (some q)->ι c'=some (some q')->q.r=q'.r->q.fz=true/\q'.fz=true:=by
   intro c c' i q q' F M h3 h4 h5;rcases d2 i q h3 with ⟨p,K,e2⟩ | h
   ·obtain ⟨a1,a2⟩:=bE K;rcases hW.inj _ _ _ _ a2 h4 (e2.trans h5) with this | ⟨z1,z2⟩
    ·rw [<-this,<-Y i a1,hidx (by omega)] at M;cases M
    ·have hlt:=hf0 i p K z1;have:=d1 i a1 (by omega);rw [h3,K] at this;simp only [ae] at this;exact ⟨by rw [this];exact z1,z2⟩
   ·have:=hW.dom c' q' h4;omega
  cases hi:idxN A c with
  | none=>
   rw [U c hi] at K;cases Z:idxN A c' with
   | none=>rw [U c' Z] at e2;exact hW.inj _ _ _ _ K e2 e3
   | some i'=>rw [O c' i' Z] at e2;exact .inr (far Z hi e2 K e3.symm).symm
  | some i=>
   rw [O c i hi] at K;cases Z:idxN A c' with
   | none=>rw [U c' Z] at e2;exact .inr (far hi Z K e2 e3)
   | some i'=>
    rw [O c' i' Z] at e2;refine (g1.inj _ _ _ _ K e2 e3).imp (λthis=>?_) id;rw [<-(kh hi).2,<-(kh Z).2,this]
 ·simp only;cases hi:idxN A c with
  | none=>
   rw [U c hi] at hc;have:=hW.low c q hc;omega
  | some i=>
   rcases G hi with ⟨F,rfl⟩ | ⟨j,_,M,rfl⟩
   ·obtain ⟨p,hp⟩:=hmap i F;have:=hW.low _ _ hp;omega
   ·omega
 ·cases hi:idxN A c with
  | none=>
   rw [U c hi] at hc;have:=hW.dom c q hc;omega
  | some i=>rw [O c i hi] at hc;exact g1.dom i q hc
 ·simp only at hl;rw [kD] at hl;cases hlr:look (renH A out.H) c with
  | some x=>
   rw [hlr] at hl;simp only [Option.some_or,ae] at hl;subst hl;obtain ⟨b,blk',rfl,C,hlb,rfl⟩:=vP hnd (λq X=>by rw [E];exact hko q X) hlr;rw [E] at C;refine (g1.blk b blk' hlb (λe=>hd (Blk.ren_dead.2 e))).map (hat b C) (λ_ _=>rfl) (λq o hbr=>?_) (λt e=>Blk.ren_nil.2 e);rw [<-hI] at hbr;exact (BR.ren (by rw [E];exact hlo b blk' hlb)).2 hbr
  | none=>
   rw [hlr] at hl;simp only [wB] at hl;rw [oP] at hl;cases hl0:look H c with
   | none=>rw [hl0] at hl;cases hl
   | some y=>
    rw [hl0] at hl;simp only [cK,ae] at hl;subst hl;have hlt:∀i,idxN A c=some i->i<ro:=by
     intro i hi;rcases aA i ro with h | h
     ·exact h
     ·exfalso;obtain ⟨F,M⟩:=kh hi;rw [E] at F;obtain ⟨v,hv'⟩:=md (hw i h F);have:=qm hnd (λq X=>by rw [E];exact hko q X) hv';rw [M,hlr] at this;cases this
    have hιc:J c=ι c:=by
     cases hi:idxN A c with
     | none=>exact U c hi
     | some i=>
      rw [O c i hi];have hlti:=hlt i hi;rcases G hi with ⟨F,rfl⟩ | ⟨j,rfl,M,rfl⟩
      ·exact W i F (by omega)
      ·exfalso;rcases aA (ρ.length+j) ro with _ | h
       ·have hb0:ι (fr+j)=none:=hfr _ (by omega) (by simp only;omega);rcases hW.blk _ y hl0 (by rintro rfl;exact hd rfl) with ⟨q,_,q3,_⟩ | ⟨q3,_⟩<;>(rw [hb0] at q3;cases q3)
       ·omega
    refine (hW.blk c y hl0 (by rintro rfl;exact hd rfl)).map hιc (λq X=>hheap c q X hlt) (λq o hbr=>BR.kill (λb C q X=>?_) hbr) (by rintro t rfl;rfl);cases hi:idxN A b with
    | none=>rw [U b hi];exact X
    | some i=>
     rw [O b i hi];rcases G hi with ⟨F,rfl⟩ | ⟨j,_,M,rfl⟩
     ·rw [W i F ?_];exact X;rcases aA i rb with h | h
      ·exact h
      ·rw [tV.2 (sS h F)] at C;cases C
     ·rw [hfr _ (by omega) (by simp only;omega)] at X;cases X
 ·have F:=kN C;obtain ⟨a1,a2⟩:=bE F;have hge:ro<=b:=by
   unfold roI at C;rcases aA b ro with h' | h'
   ·rw [show Nat.blt b ro=true from cZ h'] at C;cases C
   ·exact h'
  refine hno (getN ρ b) q ?_ hr;rw [vz (by rw [vQ];exact eC.2 ⟨b,hw b hge (by omega),Y b a1⟩)];exact a2
 ·rw [<-hI] at g3;cases e with
  | returned x=>exact ⟨g3.1,(VR.ren _ _ (by rw [E];exact hv)).2 g3.2⟩
  | panicked chain=>
   obtain ⟨p1,x,p2,p3⟩:=g3;exact ⟨p1,x,p2,(VR.ren _ _ (by rw [E];exact hv)).2 p3⟩
  | outgrown=>exact g3
def funE {A R:Type} (f rb:Nat) (b:List V->List (Nat×Blk)->Option (A×List Nat)) (sh:A->Option R) (a:(α:Type)->R->(FOut->Option α)->Option α):Ent:=
 ⟨f,λα args H fr k=>ob (b args H) λp=>ob (sh p.1) λr=>a α r λo=>
  k { val:=V.ren (p.2++upTo fr o.news.length) o.val,pan:=o.pan,rd:=p.2,wr:=renH (p.2++upTo fr o.news.length) o.H,grow:=o.news.length,kill:=qI rb p.2 }⟩
theorem H8 {A R:Type} {f m ro rb:Nat} {v:List V->List (Nat×Blk)->Option (A×List Nat)} {sh:A->Option R} {c:(α:Type)->R->(FOut->Option α)->Option α} {out:R->FOut}
  {arg:A->List V} {H0:A->List (Nat×Blk)} (g:gx P f) (o:ro<=rb) (s:ro<=m) (q:∀α r k,c α r k=k (out r))
  (t:∀l H a ρ,v l H=some (a,ρ)->ρ.length=m/\ρ.Nodup/\l=V.rens ρ (arg a)/\∀b blk,look (H0 a) b=some blk->look H (getN ρ b)=some (blk.ren ρ))
  (F:∀a,V.lts m (arg a)=true) (d:∀a b blk,look (H0 a) b=some blk->b<m/\Blk.lt m blk=true) (e:∀a,uk (H0 a) m=true) (n:∀r,∀b∈keys (out r).H,b<m+(out r).news.length)
  (j:∀r b blk,look (out r).H b=some blk->Blk.lt (m+(out r).news.length) blk=true) (B:∀r b,ro<=b->b<m+(out r).news.length->b∈keys (out r).H) (I:∀r,V.lt (m+(out r).news.length) (out r).val=true)
  (h:∀a r,sh a=some r->zH P f (arg a) (H0 a) m ro rb (out r)):cD P (funE f rb v sh c):=by
 intro α args H fr k z x;simp only [funE] at x;obtain ⟨⟨a,ρ⟩,K,u⟩:=ah x;obtain ⟨r,J,i⟩:=ah u;rw [q] at i;obtain ⟨w,E,G,D⟩:=t args H a ρ K;subst G;refine ⟨_,i,λL p=>.inl ⟨g,(h a r J).call o s w E (F a) (d a) (e a) (n r) (j r) (B r) (I r) (λb blk y=>?_) fr⟩⟩;have C:=(d a b blk y).1;rw [p _ (i7 (by rw [w];exact C))];exact D b blk y
def EQ (Q:Nat->Blk->Prop):List (Nat×Blk)->Prop
 | []=>True
 | (b,x)::l=>Q b x/\EQ Q l
theorem sG {Q:Nat->Blk->Prop}:∀{l:List (Nat×Blk)},EQ Q l->∀b x,look l b=some x->Q b x
 | [],_,b,x,h=>by cases h
 | (c,y)::l,h,b,x,a=>by
  rw [aF] at a;split at a
  ·rename_i e;subst e;simp only [ae] at a;subst a;exact h.1
  ·exact sG h.2 b x a
def chkH (m:Nat) (H:List (Nat×Blk)):Bool:=H.all λp=>Nat.blt p.1 m&&Blk.lt m p.2
theorem lF {m:Nat}:∀{H:List (Nat×Blk)},chkH m H=true->∀b x,look H b=some x->b<m/\Blk.lt m x=true
 | [],_,b,x,h=>by cases h
 | (c,y)::l,h,b,x,a=>by
  simp only [chkH,kg,av] at h;rw [aF] at a;split at a
  ·rename_i e;subst e;simp only [ae] at a;subst a;exact ⟨ax h.1.1,h.1.2⟩
  ·exact lF (H:=l) h.2 b x a
theorem vo {m:Nat} {H:List (Nat×Blk)} (h:chkH m H=true):∀b∈keys H,b<m:=by
 intro b a;simp only [keys,eC] at a;obtain ⟨p,c,rfl⟩:=a;simp only [chkH,bz,av] at h;exact ax (h p c).1
end Go.Abs
