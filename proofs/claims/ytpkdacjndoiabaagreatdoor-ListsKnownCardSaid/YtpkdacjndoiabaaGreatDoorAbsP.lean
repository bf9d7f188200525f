/- Functions that take addresses: their contract over any memory that holds what they look at.
   Conditions: none; generic over the program. -/
import Derived.Test.YtpkdacjndoiabaaGreatDoorAbsO
set_option linter.unusedSimpArgs false
namespace Go.Abs
variable {P:Program}
mutual
def V.ren (ρ:List Nat):V->V
 | .p c o=>.p (getN ρ c) o
 | .sl c o n m=>.sl (getN ρ c) o n m
 | .pr z c j o=>.pr z (getN ρ c) j o
 | .ws c=>.ws (getN ρ c)
 | .mp c=>.mp (getN ρ c)
 | .rs z c j n m=>.rs z (getN ρ c) j n m
 | .unk=>.unk
 | .fn f l=>.fn f (V.rens ρ l)
 | .ag l=>.ag (V.rens ρ l)
 | .tp l=>.tp (V.rens ρ l)
 | .it t v=>.it t (V.ren ρ v)
 | .b x=>.b x
 | .i k n=>.i k n
 | .s l=>.s l
 | .pn=>.pn
 | .sn=>.sn
 | .nf=>.nf
 | .ni=>.ni
 | .ai k n l=>.ai k n l
def V.rens (ρ:List Nat):List V->List V
 | []=>[]
 | v::l=>V.ren ρ v::V.rens ρ l
end
def Blk.ren (ρ:List Nat):Blk->Blk
 | .cells l=>.cells (V.rens ρ l)
 | .dead=>.dead
 | .rows t l=>.rows t l
 | .ints k n l=>.ints k n l
 | .iter s pos=>.iter s pos
 | .mp k l=>.mp k l
def renH (ρ:List Nat):List (Nat×Blk)->List (Nat×Blk)
 | []=>[]
 | (b,x)::l=>(getN ρ b,x.ren ρ)::renH ρ l
def kE (ι:Inj) (ρ:List Nat):Inj:=λb=>cond (Nat.blt b ρ.length) (ι (getN ρ b)) none
theorem kA {ι:Inj} {ρ:List Nat} {b:Nat} (h:b<ρ.length):kE ι ρ b=ι (getN ρ b):=by
 have:Nat.blt b ρ.length=true:=dG h
 simp [kE,this]
theorem cZ {ι:Inj} {ρ:List Nat} {b:Nat} {r:Option Rf} (h:kE ι ρ b=some r):b<ρ.length/\ι (getN ρ b)=some r:=by
 unfold kE at h
 cases hb:Nat.blt b ρ.length with
 | true=>rw [hb] at h;exact ⟨aI hb,h⟩
 | false=>rw [hb] at h;cases h
mutual
theorem VR.ren {ι:Inj} {ρ:List Nat}:∀(v:V) (x:Value),V.lt ρ.length v=true->(VR ι (V.ren ρ v) x↔VR (kE ι ρ) v x)
 | .b _,_,_ | .i _ _,_,_ | .s _,_,_ | .pn,_,_ | .sn,_,_ | .nf,_,_ | .ni,_,_ | .ai _ _ _,_,_ | .unk,_,_=>by simp only [V.ren,VR]
 | .p c o,x,h | .pr z c j o,x,h | .ws c,x,h | .rs z c j n _,x,h | .mp c,x,h=>by
  simp only [V.lt] at h
  simp only [V.ren,VR,kA (ι:=ι) (aI h:c<ρ.length)]
 | .sl c o n m,x,h=>by
  simp only [V.lt] at h
  simp only [V.ren,VR,kA (ι:=ι) (aI h:c<ρ.length)]
 | .fn f l,x,h=>by
  simp only [V.lt] at h
  simp only [V.ren,VR]
  exact oW λcs=>ur λ_=>VRs.ren l cs.toList h
 | .it t v,x,h=>by
  simp only [V.lt] at h
  simp only [V.ren,VR]
  exact oW λy=>ur λ_=>VR.ren v y h
 | .ag l,x,h=>by
  simp only [V.lt] at h
  simp only [V.ren,VR]
  exact oW λcs=>ur λ_=>VRs.ren l cs.toList h
 | .tp l,x,h=>by
  simp only [V.lt] at h
  simp only [V.ren,VR]
  exact oW λcs=>ur λ_=>VRs.ren l cs.toList h
theorem VRs.ren {ι:Inj} {ρ:List Nat}:∀(l:List V) (xs:List Value),V.lts ρ.length l=true->(VRs ι (V.rens ρ l) xs↔VRs (kE ι ρ) l xs)
 | [],_,_=>by simp [V.rens,VRs]
 | v::l,xs,h=>by
  simp only [V.lts,az] at h
  simp only [V.rens,VRs]
  exact oW λy=>oW λys=>ur λ_=>and_congr (VR.ren v y h.1) (VRs.ren l ys h.2)
end
theorem BR.ren {ι:Inj} {ρ:List Nat} {q:Rf}:∀{blk:Blk} {o:Obj},Blk.lt ρ.length blk=true->(BR ι q (blk.ren ρ) o↔BR (kE ι ρ) q blk o)
 | .dead,_,_ | .ints _ _ _,_,_ | .iter _ _,_,_ | .rows _ _,_,_ | .mp _ _,_,_=>by simp [Blk.ren,BR]
 | .cells l,o,h=>by
  simp only [Blk.lt] at h
  simp only [Blk.ren,BR]
  exact oW λcs=>oW λe=>oW λfr=>ur λ_=>and_congr_left λ_=>VRs.ren l cs.toList h
theorem Blk.ren_nil {ρ:List Nat} {blk:Blk} {t:List Lf}:blk.ren ρ=.rows t []↔blk=.rows t []:=by
 cases blk<;>simp [Blk.ren]
theorem Blk.ren_dead {ρ:List Nat} {blk:Blk}:blk.ren ρ=.dead↔blk=.dead:=by
 cases blk<;>simp [Blk.ren]
def Az (H:List (Nat×Blk)):Nat->Bool
 | 0=>true
 | m+1=>(match look H m with | some .dead=>false | some _=>true | none=>false)&&Az H m
theorem us {H:List (Nat×Blk)}:∀{m:Nat},Az H m=true->∀b,b<m->∃blk,look H b=some blk/\blk≠.dead
 | 0,_,b,hb=>by omega
 | m+1,h,b,hb=>by
  simp only [Az,az] at h
  by_cases hbm:b=m
  ·subst hbm
   have h1:=h.1
   split at h1
   ·cases h1
   ·rename_i blk hn hl;exact ⟨blk,hl,λe=>hn (by rw [e])⟩
   ·cases h1
  ·exact us h.2 b (by omega)
theorem mL:∀{l:List Nat} {b:Nat},b<l.length->getN l b∈l
 | [],_,h=>by simp at h
 | x::l,0,_=>by simp [getN]
 | x::l,b+1,h=>by simp only [getN];exact gq _ (mL (by simpa using h))
theorem qS:∀{l:List Nat} {b c:Nat},l.Nodup->b<l.length->c<l.length->getN l b=getN l c->b=c
 | [],_,_,_,h,_,_=>by simp at h
 | x::l,0,0,_,_,_,_=>rfl
 | x::l,0,c+1,hn,_,hc,h=>by
  simp only [getN] at h
  have:=mL (l:=l) (b:=c) (by simpa using hc)
  rw [<-h] at this
  exact absurd this (vR.1 hn).1
 | x::l,b+1,0,hn,hb,_,h=>by
  simp only [getN] at h
  have:=mL (l:=l) (b:=b) (by simpa using hb)
  rw [h] at this
  exact absurd this (vR.1 hn).1
 | x::l,b+1,c+1,hn,hb,hc,h=>by
  simp only [getN] at h
  have:=qS (vR.1 hn).2 (by simpa using hb) (by simpa using hc) h
  omega
theorem Bh {ρ:List Nat} (hn:ρ.Nodup):∀{H:List (Nat×Blk)} {c:Nat} {blk:Blk},(∀b∈keys H,b<ρ.length)->look (renH ρ H) c=some blk->∃b blk',c=getN ρ b/\b<ρ.length/\look H b=some blk'/\blk=blk'.ren ρ
 | [],c,blk,_,h=>by simp [renH,look] at h
 | (b,x)::H,c,blk,hk,h=>by
  simp only [renH,aU] at h
  split at h
  ·rename_i e
   simp only [aq] at h
   exact ⟨b,x,e.symm,hk b (by simp [keys]),by simp [aU],h.symm⟩
  ·rename_i e
   obtain ⟨d,y,h1,h2,h3,h4⟩:=Bh hn (λq hq=>hk q (by simp only [keys,fE,dl];exact .inr hq)) h
   refine ⟨d,y,h1,h2,?_,h4⟩
   rw [aU,ab (λhbd=>e (by rw [hbd,h1])),h3]
theorem Bg (ρ:List Nat):∀H:List (Nat×Blk),keys (renH ρ H)=(keys H).map (getN ρ)
 | []=>rfl
 | (b,x)::H=>by
  have:=Bg ρ H
  simp only [keys] at this ⊢
  simp [renH,this]
theorem B7 {wr:List (Nat×Blk)} {ι:Inj} {b:Nat} (h:b∈keys wr):uF wr ι b=ι b:=by
 unfold uF
 rw [ae]
 simp only [keys,eJ] at h
 obtain ⟨x,hx,rfl⟩:=h
 exact tg.2 ⟨x,hx,by simp⟩
theorem zp {ρ:List Nat}:∀{H:List (Nat×Blk)} {b:Nat} {v:Blk},look H b=some v->(getN ρ b,v.ren ρ)∈renH ρ H
 | [],_,_,h=>by cases h
 | (c,x)::H,b,v,h=>by
  rw [aU] at h
  simp only [renH]
  split at h
  ·rename_i e;subst e
   simp only [aq] at h;subst h
   exact nV
  ·exact gq _ (zp h)
theorem wb {ρ:List Nat} (hn:ρ.Nodup):∀{H:List (Nat×Blk)} {b:Nat} {blk:Blk},(∀b∈keys H,b<ρ.length)->look H b=some blk->look (renH ρ H) (getN ρ b)=some (blk.ren ρ)
 | [],b,blk,_,h=>by cases h
 | (c,x)::H,b,blk,hk,h=>by
  have hb:b<ρ.length:=by
   refine hk b ?_
   have:b∈((c,x)::H).map (·.1):=by
    by_cases hin:b∈((c,x)::H).map (·.1)
    ·exact hin
    ·rw [qJ hin] at h;cases h
   exact this
  have hc:c<ρ.length:=hk c (by simp [keys])
  rw [aU] at h
  simp only [renH,aU]
  split at h
  ·rename_i e;subst e
   simp only [aq] at h;subst h
   rw [ae rfl]
  ·rename_i hne
   rw [ab (λe=>hne (qS hn hc hb e))]
   exact wb hn (λq hq=>hk q (by simp only [keys,fE,dl];exact .inr hq)) h
structure FOut where
 pan:Bool
 val:V
 H:List (Nat×Blk)
 news:List Nat:=[]
def He (P:Program) (f:Nat) (args:List V) (H0:List (Nat×Blk)) (m ro rb:Nat) (out:FOut):Prop:=
 ∀(ι0:Inj) (w:World) (xs:Array Value),WR ι0 H0 m w->(∀b q,ι0 b=some (some q)->q.fz=true->b<ro)->GL (roI ι0 ro) w->VRs ι0 args xs.toList->
  Calls P f xs w λe w'=>∃ι:Inj,(∀b,b<m->b<rb->ι b=ι0 b)/\(∀b q,ι b=some (some q)->(∃q',ι0 b=some (some q')/\q'.r=q.r)\/w.heap.size<=q.r)/\
   WR ι out.H (m+out.news.length) w'/\(∀b q,ι b=some (some q)->q.fz=true->b<ro)/\Fr (roI ι0 ro) w w'/\RetR ι { val:=out.val,pan:=out.pan } e
def Tn (m c:Nat) (acc:List Nat):List Nat:=cond (Nat.blt c m) acc (cond (acc.any (Nat.beq c)) acc (acc++[c]))
mutual
def V.news (m:Nat):V->List Nat->List Nat
 | .p c _,acc | .sl c _ _ _,acc | .pr _ c _ _,acc | .ws c,acc | .rs _ c _ _ _,acc | .mp c,acc=>Tn m c acc
 | .fn _ l,acc | .ag l,acc | .tp l,acc=>V.newss m l acc
 | .it _ v,acc=>V.news m v acc
 | .b _,acc | .i _ _,acc | .s _,acc | .pn,acc | .sn,acc | .nf,acc | .ni,acc | .ai _ _ _,acc | .unk,acc=>acc
def V.newss (m:Nat):List V->List Nat->List Nat
 | [],acc=>acc
 | v::l,acc=>V.newss m l (V.news m v acc)
end
def Eg (m:Nat) (H:List (Nat×Blk)):List Nat->List Nat->List Nat
 | [],acc=>acc
 | b::l,acc=>match look H b with
  | some (.cells c)=>Eg m H l (V.newss m c acc)
  | _=>Eg m H l acc
def upTo:Nat->Nat->List Nat
 | _,0=>[]
 | b,n+1=>b::upTo (b+1) n
def iM:List Nat->Bool
 | []=>true
 | x::l=>l.all (λy=>!Nat.beq x y)&&iM l
theorem pa:∀{l:List Nat},iM l=true->l.Nodup
 | [],_=>List.nodup_nil
 | x::l,h=>by
  simp only [iM,az,dF] at h
  refine vR.2 ⟨λhx=>?_,pa h.2⟩
  have:=h.1 x hx
  simp at this
def funX {R:Type} (ws:List Nat) (m ro rb:Nat) (un:Bool->V->List (Nat×Blk)->List Nat->Option R):Bool->V->St->Option R:=
 λpan v s=>match V.newss m [v] (Eg m s.H ws []) with
  | nw=>match iM nw&&(nw.all (Nat.ble m)&&(Nat.beq s.ro ro&&Nat.beq s.rb rb)) with
   | true=>Mc s.nb s.H (ws++nw) λH=>un pan v H nw
   | false=>none
theorem pG:∀(n b:Nat),(upTo b n).length=n
 | 0,_=>rfl
 | n+1,b=>by simp [upTo,pG n]
theorem va:∀(n b c:Nat) (l:List Nat),c<n->getN (upTo b n++l) c=b+c
 | 0,_,_,_,h=>by omega
 | n+1,b,0,l,_=>rfl
 | n+1,b,c+1,l,h=>by
  simp only [upTo,fP,getN,va n (b+1) c l (by omega)]
  omega
theorem mO:∀{n b c:Nat},c∈upTo b n↔b<=c/\c<b+n
 | 0,b,c=>by simp only [upTo,sC,false_iff];omega
 | n+1,b,c=>by
  simp only [upTo,dl,mO (n:=n)]
  omega
theorem qQ:∀(n b:Nat),(upTo b n).Nodup
 | 0,_=>List.nodup_nil
 | n+1,b=>vR.2 ⟨λh=>by have:=mO.1 h;omega,qQ n (b+1)⟩
theorem jE:∀(l k:List Nat) (c:Nat),getN (l++k) (l.length+c)=getN k c
 | [],k,c=>by simp
 | x::l,k,c=>by
  rw [aD,show l.length+1+c=(l.length+c)+1 by omega]
  simp only [fP,getN,jE l k c]
theorem nF:∀(l k:List Nat) (c:Nat),c<l.length->getN (l++k) c=getN l c
 | [],k,c,h=>by simp at h
 | x::l,k,0,_=>rfl
 | x::l,k,c+1,h=>by simp only [fP,getN,nF l k c (by simpa using h)]
theorem Pq {R:Type} {ws:List Nat} {m ro rb:Nat} {un:Bool->V->List (Nat×Blk)->List Nat->Option R} {out:R->FOut}
  (hun:∀pan v H nw r,un pan v H nw=some r->(out r).pan=pan/\(out r).news.length=nw.length/\v=V.ren (upTo 0 m++nw) (out r).val/\H=renH (upTo 0 m++nw) (out r).H)
  (hv:∀r,V.lt (m+(out r).news.length) (out r).val=true) (hH:∀r b blk,look (out r).H b=some blk->Blk.lt (m+(out r).news.length) blk=true)
  (hk:∀r,∀b∈keys (out r).H,b<m+(out r).news.length)
  (hrm:ro<=m) {f:Nat} {args:List V} {H0:List (Nat×Blk)} {r:R} (hall:Az H0 m=true) (hsem:zU P f args H0 m ro (funX ws m ro rb un) r):He P f args H0 m ro rb (out r):=by
 intro ι0 w xs hW hf0 hgl hx
 refine (hsem ι0 w xs hW hf0 hgl hx).mono λe w' ⟨pan,u,s,ι,h1,h2,h3,h4,h4f,h5,h6⟩=>?_
 unfold funX at h1
 simp only at h1
 split at h1
 case h_2=>cases h1
 rename_i hb
 simp only [az,iV,dF] at hb
 obtain ⟨hdis,hge,hro,hrb⟩:=hb
 obtain ⟨H',g1,g2⟩:=Fe h1
 obtain ⟨p1,p2,p3,p4⟩:=hun _ _ _ _ _ g1
 generalize hnw:V.newss m [u] (Eg m s.H ws [])=nw at *
 subst p1
 have hlen:(upTo 0 m++nw).length=m+(out r).news.length:=by rw [aM,pG,p2]
 have hnd:(upTo 0 m++nw).Nodup:=by
  refine C2.2 ⟨qQ m 0,pa hdis,λa ha b hb hab=>?_⟩
  subst hab
  have h1:=(mO.1 ha).2
  have h2:=aI (hge a hb)
  omega
 have hlow:∀b,b<m->getN (upTo 0 m++nw) b=b:=λb hb=>by rw [va m 0 b _ hb];omega
 have hnone:∀b,m<=b->ι0 b=none:=by
  intro b hb
  cases hi:ι0 b with
  | none=>rfl
  | some q=>have:=hW.low b q hi;omega
 have hin:∀{b q},kE ι (upTo 0 m++nw) b=some q->b<m+(out r).news.length/\ι (getN (upTo 0 m++nw) b)=some q:=λh=>by
  have:=cZ h
  rwa [hlen] at this
 refine ⟨kE ι (upTo 0 m++nw),λb h1 h1'=>?_,λb q hq=>?_,⟨λb b' q q' e1 e2 e3=>?_,λb q e=>(hin e).1,λb q e=>h4.dom _ _ (hin e).2,λb blk hl hd=>?_⟩,λb q e hq=>?_,by rw [hro] at h5;exact h5,?_⟩
 ·rw [kA (by rw [hlen];omega),hlow b h1]
  obtain ⟨blk,q1,q2⟩:=us hall b h1
  have hs:∃q,ι0 b=some q:=by
   rcases hW.blk b blk q1 q2 with ⟨q,_,q3,_⟩ | ⟨q3,_⟩
   ·exact ⟨_,q3⟩
   ·exact ⟨_,q3⟩
  obtain ⟨q,q3⟩:=hs
  rcases h2 b q q3 with h | h
  ·rw [h,q3]
  ·rw [hrb] at h;omega
 ·obtain ⟨e1,e2⟩:=hin hq
  by_cases hbm:b<m
  ·rw [hlow b hbm] at e2
   exact h3 b q e2
  ·rcases h3 _ q e2 with ⟨q',e3,_⟩ | h
   ·obtain ⟨i,rfl⟩:∃i,b=m+i:=⟨b - m,by omega⟩
    have e4:=jE (upTo 0 m) nw i
    rw [pG] at e4
    rw [e4,hnone _ (aI (hge _ (mL (by omega))))] at e3
    cases e3
   ·exact .inr h
 ·obtain ⟨a1,a2⟩:=hin e1
  obtain ⟨b1,b2⟩:=hin e2
  exact (h4.inj _ _ _ _ a2 b2 e3).imp (qS hnd (by rw [hlen];exact a1) (by rw [hlen];exact b1)) id
 ·have hb:b<m+(out r).news.length:=hk r b (by
   by_cases hmem:b∈(out r).H.map (·.1)
   ·exact hmem
   ·rw [qJ hmem] at hl;cases hl)
  have hl2:=wb hnd (λq hq=>by rw [hlen];exact hk r q hq) hl
  rw [<-p4] at hl2
  obtain ⟨q1,_,_⟩:=g2 _ _ hl2
  exact (h4.blk _ _ q1 (λe=>hd (Blk.ren_dead.1 e))).map (kA (by rw [hlen];exact hb)) (λ_ _=>rfl) (λq o hbr=>(BR.ren (by rw [hlen];exact hH r b blk hl)).1 hbr) (λt e=>Blk.ren_nil.1 e)
 ·obtain ⟨e1,e2⟩:=hin e
  have:=h4f _ q e2 hq
  rw [hro] at this
  by_cases hbm:b<m
  ·rwa [hlow b hbm] at this
  ·exfalso
   obtain ⟨i,rfl⟩:∃i,b=m+i:=⟨b - m,by omega⟩
   have e4:=jE (upTo 0 m) nw i
   rw [pG] at e4
   rw [e4] at this e2
   have hge':=aI (hge _ (mL (l:=nw) (b:=i) (by omega)))
   have hrm:ro<=m:=hrm
   omega
 ·have hvr:∀x,VR ι u x->VR (kE ι (upTo 0 m++nw)) (out r).val x:=by
   intro x hx
   rw [p3] at hx
   exact (VR.ren _ x (by rw [hlen];exact hv r)).1 hx
  cases e with
  | returned x=>exact ⟨h6.1,hvr x h6.2⟩
  | panicked chain=>
   obtain ⟨p1,x,p2,p3⟩:=h6
   exact ⟨p1,x,p2,hvr x p3⟩
  | outgrown=>exact h6
def idxN:List Nat->Nat->Option Nat
 | [],_=>none
 | x::l,c=>if x=c then some 0 else (idxN l c).map (·+1)
theorem oH:∀{l:List Nat} {c i:Nat},idxN l c=some i->i<l.length/\getN l i=c
 | [],c,i,h=>by cases h
 | x::l,c,i,h=>by
  simp only [idxN] at h
  split at h
  ·rename_i e
   simp only [aq] at h;subst h
   exact ⟨by simp,e⟩
  ·cases hl:idxN l c with
   | none=>simp [hl] at h
   | some j=>
    simp only [hl,eK,aq] at h;subst h
    obtain ⟨h1,h2⟩:=oH hl
    exact ⟨by simp;omega,by simp only [getN,h2]⟩
theorem MR {l:List Nat} (hn:l.Nodup) {i:Nat} (h:i<l.length):idxN l (getN l i)=some i:=by
 cases hi:idxN l (getN l i) with
 | none=>
  exfalso
  have:∀(l:List Nat) (c:Nat),c∈l->idxN l c≠none:=by
   intro l
   induction l with
   | nil=>intro c h;simp at h
   | cons x l ih=>
    intro c hc
    simp only [idxN]
    split
    ·simp
    ·rename_i hne
     simp only [dl] at hc
     have:=ih c (hc.resolve_left λe=>hne e.symm)
     cases hx:idxN l c with
     | none=>exact absurd hx this
     | some _=>simp
  exact this l _ (mL h) hi
 | some j=>
  obtain ⟨h1,h2⟩:=oH hi
  rw [qS hn h1 h h2]
def wz (rb:Nat) (ρ:List Nat):List Nat:=ρ.drop rb
theorem yW {ρ:List Nat}:∀{rb i:Nat},rb<=i->i<ρ.length->getN ρ i∈wz rb ρ:=by
 unfold wz
 induction ρ with
 | nil=>intro rb i _ h;simp at h
 | cons x l ih=>
  intro rb i h1 h2
  cases rb with
  | zero=>exact mL h2
  | succ rb=>
   cases i with
   | zero=>omega
   | succ i=>
    simp only [oC,getN]
    exact ih (by omega) (by simpa using h2)
theorem A4 {ρ:List Nat}:∀{rb c:Nat},c∈wz rb ρ->∃i,rb<=i/\i<ρ.length/\getN ρ i=c:=by
 unfold wz
 induction ρ with
 | nil=>intro rb c h;simp at h
 | cons x l ih=>
  intro rb c h
  cases rb with
  | zero=>
   have:∀(l:List Nat),c∈l->∃i,0<=i/\i<l.length/\getN l i=c:=by
    intro l
    induction l with
    | nil=>intro h;simp at h
    | cons y l ih2=>
     intro h
     rcases dl.1 h with rfl | h
     ·exact ⟨0,aV _,by simp,rfl⟩
     ·obtain ⟨i,_,h2,h3⟩:=ih2 h
      exact ⟨i+1,by omega,by simpa using h2,h3⟩
   exact this _ (by simpa using h)
  | succ rb=>
   simp only [oC] at h
   obtain ⟨i,h1,h2,h3⟩:=ih h
   exact ⟨i+1,by omega,by simpa using h2,h3⟩
theorem AN {K:List Nat} {b:Nat}:isIn K b=true↔b∈K:=by
 unfold isIn
 rw [tg]
 constructor
 ·rintro ⟨x,hx,hb⟩;rw [bE hb];exact hx
 ·intro h;exact ⟨b,h,by simp⟩
theorem He.call {f:Nat} {args:List V} {H0:List (Nat×Blk)} {m ro rb:Nat} {out:FOut} (h:He P f args H0 m ro rb out) (hrr:ro<=rb) (hrm:ro<=m) {ρ:List Nat} (hm:ρ.length=m) (hn:ρ.Nodup)
  (ha:V.lts m args=true) (hk0:∀b blk,look H0 b=some blk->b<m/\Blk.lt m blk=true) (hall:Az H0 m=true) (hko:∀b∈keys out.H,b<m+out.news.length) (hlo:∀b blk,look out.H b=some blk->Blk.lt (m+out.news.length) blk=true)
  (hw:∀b,ro<=b->b<m+out.news.length->b∈keys out.H) (hv:V.lt (m+out.news.length) out.val=true) {H:List (Nat×Blk)} (hH:∀b blk,look H0 b=some blk->look H (getN ρ b)=some (blk.ren ρ)) (fr:Nat):
  EL P f (V.rens ρ args) H fr { val:=V.ren (ρ++upTo fr out.news.length) out.val,pan:=out.pan,rd:=ρ,wr:=renH (ρ++upTo fr out.news.length) out.H,grow:=out.news.length,kill:=wz rb ρ }:=by
 subst hm
 intro ι nb w xs hW hgl hfw hfr hx
 have hmap:∀b,b<ρ.length->∃q,ι (getN ρ b)=some q:=by
  intro b hb
  obtain ⟨blk,q1,q2⟩:=us hall b hb
  rcases hW.blk (getN ρ b) (blk.ren ρ) (hH b blk q1) (λe=>q2 (Blk.ren_dead.1 e)) with ⟨q,_,q3,_⟩ | ⟨q3,_⟩
  ·exact ⟨_,q3⟩
  ·exact ⟨_,q3⟩
 have hWI:WR (kE ι ρ) H0 ρ.length w:=by
  refine ⟨λb b' q q' e1 e2 e3=>?_,λb q e=>(cZ e).1,λb q e=>hW.dom _ _ (cZ e).2,λb blk hl hd=>?_⟩
  ·obtain ⟨a1,a2⟩:=cZ e1
   obtain ⟨b1,b2⟩:=cZ e2
   exact (hW.inj _ _ _ _ a2 b2 e3).imp (qS hn a1 b1) id
  ·obtain ⟨c1,c2⟩:=hk0 b blk hl
   exact (hW.blk (getN ρ b) (blk.ren ρ) (hH b blk hl) (λe=>hd (Blk.ren_dead.1 e))).map (kA c1) (λ_ _=>rfl) (λ_ _ hbr=>(BR.ren c2).1 hbr) (λt e=>Blk.ren_nil.1 e)
 have hf0:∀b q,kE ι ρ b=some (some q)->q.fz=true->b<ro:=by
  intro b q hb hq
  rcases aG b ro with h | h
  ·exact h
  ·exfalso
   obtain ⟨a1,a2⟩:=cZ hb
   obtain ⟨v,hv'⟩:=rh (hw b h (by omega))
   have hkey:(getN (ρ++upTo fr out.news.length) b,v.ren (ρ++upTo fr out.news.length))∈renH (ρ++upTo fr out.news.length) out.H:=zp hv'
   have:=hfw _ hkey q (by simp only;rw [nF _ _ _ a1];exact a2)
   rw [this] at hq;cases hq
 have hgl0:GL (roI (kE ι ρ) ro) w:=hgl.mono λb q hb=>by
  obtain ⟨a1,a2⟩:=cZ (pw hb)
  obtain ⟨v,hv'⟩:=rh (hw b (Jn hb) (by omega))
  have hkey:(getN (ρ++upTo fr out.news.length) b,v.ren (ρ++upTo fr out.news.length))∈renH (ρ++upTo fr out.news.length) out.H:=zp hv'
  rw [nF _ _ _ a1] at hkey
  exact .inl ⟨_,q,by rw [B7 (eJ.2 ⟨_,hkey,rfl⟩)];exact a2,rfl⟩
 refine (h (kE ι ρ) w xs hWI hf0 hgl0 ((VRs.ren args _ ha).1 hx)).mono λe w' ⟨ιf,d1,d2,g1,g1f,g2,g3⟩=>?_
 have hsz:=g2.size
 generalize hg:out.news.length=g at *
 generalize hρ:ρ++upTo fr g=ρc at *
 have hlen:ρc.length=ρ.length+g:=by rw [<-hρ,aM,pG]
 have hold:∀b,b<ρ.length->getN ρc b=getN ρ b:=λb hb=>by rw [<-hρ,nF _ _ _ hb]
 have hnew:∀i,i<g->getN ρc (ρ.length+i)=fr+i:=λi hi=>by
  rw [<-hρ,jE]
  have:=va g fr i [] hi
  rwa [pM] at this
 have hnd:ρc.Nodup:=by
  rw [<-hρ]
  refine C2.2 ⟨hn,qQ g fr,λa ha b hb hab=>?_⟩
  subst hab
  obtain ⟨h1,h2⟩:=mO.1 hb
  obtain ⟨i,_,hi1,hi2⟩:=A4 (rb:=0) (ρ:=ρ) (c:=a) (by simpa [wz] using ha)
  obtain ⟨q,hq⟩:=hmap i hi1
  rw [hi2,hfr a h1 h2] at hq
  cases hq
 have hidx:∀{b},b<ρ.length+g->idxN ρc (getN ρc b)=some b:=λhb=>MR hnd (by rw [hlen];exact hb)
 have hι':∃ι':Inj,(∀c i,idxN ρc c=some i->ι' c=ιf i)/\(∀c,idxN ρc c=none->ι' c=ι c):=
  ⟨λc=>match idxN ρc c with | some i=>ιf i | none=>ι c,λc i hc=>by simp only [hc],λc hc=>by simp only [hc]⟩
 obtain ⟨ι',hs1,hs2⟩:=hι'
 have hat:∀b,b<ρ.length+g->ι' (getN ρc b)=ιf b:=λb hb=>hs1 _ _ (hidx hb)
 have hI:kE ι' ρc=ιf:=by
  funext b
  rcases aG b (ρ.length+g) with hb | hb
  ·rw [kA (by rw [hlen];exact hb),hat b hb]
  ·have e1:kE ι' ρc b=none:=by
    cases hc:kE ι' ρc b with
    | none=>rfl
    | some q=>have:=(cZ hc).1;omega
   have e2:ιf b=none:=by
    cases hc:ιf b with
    | none=>rfl
    | some q=>have:=g1.low b q hc;omega
   rw [e1,e2]
 have hsame:∀b,b<ρ.length->b<rb->ιf b=ι (getN ρ b):=λb h1 h2=>by rw [d1 b h1 h2,kA h1]
 have hcase:∀{c i},idxN ρc c=some i->(i<ρ.length/\c=getN ρ i)\/(∃j,i=ρ.length+j/\j<g/\c=fr+j):=by
  intro c i hi
  obtain ⟨h1,h2⟩:=oH hi
  rcases aG i ρ.length with h | h
  ·exact .inl ⟨h,by rw [<-h2,hold i h]⟩
  ·refine .inr ⟨i - ρ.length,by omega,by omega,?_⟩
   rw [<-h2,<-hnew (i - ρ.length) (by omega)]
   congr 1;omega
 have hheap:∀c q,ι c=some (some q)->(∀i,idxN ρc c=some i->i<ro)->w'.heap[q.r]?=w.heap[q.r]?:=by
  intro c q hc hno
  refine g2.blk q.r (hW.dom c q hc) λb p hb hr=>?_
  have h0:=pw hb
  obtain ⟨a1,a2⟩:=cZ h0
  have hge:ro<=b:=by
   unfold roI at hb
   rcases aG b ro with h' | h'
   ·rw [show Nat.blt b ro=true from dG h'] at hb;cases hb
   ·exact h'
  have hcb:c=getN ρ b:=(hW.inj _ _ _ _ hc a2 hr.symm).resolve_right λhh=>by have:=hf0 b p h0 hh.2;omega
  have hlt:=hno b (by rw [hcb,<-hold b a1];exact hidx (by omega))
  unfold roI at hb
  rw [show Nat.blt b ro=true from dG hlt] at hb
  cases hb
 refine ⟨ι',λc hk hc=>?_,λc q hk hc=>?_,λc q h1 h2 hc=>?_,λc q hc hq=>?_,⟨λc c' q q' e1 e2 e3=>?_,λc q hc=>?_,λc q hc=>?_,λc blk hl hd=>?_⟩,⟨g2.os,g2.tape,g2.output,g2.size,λk hk hno=>g2.blk k hk λb q hb hr=>?_⟩,?_⟩
 ·cases hi:idxN ρc c with
  | none=>exact hs2 c hi
  | some i=>
   rw [hs1 c i hi]
   rcases hcase hi with ⟨h1,rfl⟩ | ⟨j,_,h2,rfl⟩
   ·refine hsame i h1 ?_
    rcases aG i rb with h | h
    ·exact h
    ·rw [AN.2 (yW h h1)] at hk;cases hk
   ·simp only at hc;omega
 ·obtain ⟨i,h1,h2,rfl⟩:=A4 (AN.1 hk)
  have:ι' (getN ρ i)=ιf i:=by rw [<-hold i h2];exact hat i (by omega)
  rw [this] at hc
  rcases d2 i q hc with ⟨q',e1,e2⟩ | h
  ·exact .inl ⟨q',(cZ e1).2,e2⟩
  ·exact .inr h
 ·simp only at h2
  have hcj:c=getN ρc (ρ.length+(c - fr)):=by rw [hnew _ (by omega)];omega
  rw [hcj,hat _ (by omega)] at hc
  rcases d2 _ q hc with ⟨q',e1,_⟩ | h
  ·have:=(cZ e1).1;omega
  ·exact h
 ·cases hi:idxN ρc c with
  | none=>rw [hs2 c hi] at hc;exact hc
  | some i=>
   rw [hs1 c i hi] at hc
   have hlt:=g1f i q hc hq
   rcases hcase hi with ⟨h1,rfl⟩ | ⟨j,rfl,h2,rfl⟩
   ·rw [<-hsame i h1 (by omega)];exact hc
   ·exfalso
    rcases d2 _ q hc with ⟨p,e1,_⟩ | _
    ·have:=(cZ e1).1;omega
    ·omega
 ·have far:∀{c c' i q q'},idxN ρc c=some i->idxN ρc c'=none->ιf i=some (some q)->ι c'=some (some q')->q.r=q'.r->q.fz=true/\q'.fz=true:=by
   intro c c' i q q' h1 h2 h3 h4 h5
   rcases d2 i q h3 with ⟨p,e1,e2⟩ | h
   ·obtain ⟨a1,a2⟩:=cZ e1
    rcases hW.inj _ _ _ _ a2 h4 (e2.trans h5) with this | ⟨z1,z2⟩
    ·rw [<-this,<-hold i a1,hidx (by omega)] at h2
     cases h2
    ·have hlt:=hf0 i p e1 z1
     have:=d1 i a1 (by omega)
     rw [h3,e1] at this
     simp only [aq] at this
     exact ⟨by rw [this];exact z1,z2⟩
   ·have:=hW.dom c' q' h4
    omega
  cases hi:idxN ρc c with
  | none=>
   rw [hs2 c hi] at e1
   cases hi':idxN ρc c' with
   | none=>rw [hs2 c' hi'] at e2;exact hW.inj _ _ _ _ e1 e2 e3
   | some i'=>rw [hs1 c' i' hi'] at e2;exact .inr (far hi' hi e2 e1 e3.symm).symm
  | some i=>
   rw [hs1 c i hi] at e1
   cases hi':idxN ρc c' with
   | none=>rw [hs2 c' hi'] at e2;exact .inr (far hi hi' e1 e2 e3)
   | some i'=>
    rw [hs1 c' i' hi'] at e2
    refine (g1.inj _ _ _ _ e1 e2 e3).imp (λthis=>?_) id
    rw [<-(oH hi).2,<-(oH hi').2,this]
 ·simp only
  cases hi:idxN ρc c with
  | none=>
   rw [hs2 c hi] at hc
   have:=hW.low c q hc
   omega
  | some i=>
   rcases hcase hi with ⟨h1,rfl⟩ | ⟨j,_,h2,rfl⟩
   ·obtain ⟨p,hp⟩:=hmap i h1
    have:=hW.low _ _ hp
    omega
   ·omega
 ·cases hi:idxN ρc c with
  | none=>
   rw [hs2 c hi] at hc
   have:=hW.dom c q hc
   omega
  | some i=>rw [hs1 c i hi] at hc;exact g1.dom i q hc
 ·simp only at hl
  rw [pC] at hl
  cases hlr:look (renH ρc out.H) c with
  | some x=>
   rw [hlr] at hl
   simp only [Option.some_or,aq] at hl
   subst hl
   obtain ⟨b,blk',rfl,hb,hlb,rfl⟩:=Bh hnd (λq hq=>by rw [hlen];exact hko q hq) hlr
   rw [hlen] at hb
   refine (g1.blk b blk' hlb (λe=>hd (Blk.ren_dead.2 e))).map (hat b hb) (λ_ _=>rfl) (λq o hbr=>?_) (λt e=>Blk.ren_nil.2 e)
   rw [<-hI] at hbr
   exact (BR.ren (by rw [hlen];exact hlo b blk' hlb)).2 hbr
  | none=>
   rw [hlr] at hl
   simp only [Et] at hl
   rw [ue] at hl
   cases hl0:look H c with
   | none=>rw [hl0] at hl;cases hl
   | some y=>
    rw [hl0] at hl
    simp only [eK,aq] at hl
    subst hl
    have hlt:∀i,idxN ρc c=some i->i<ro:=by
     intro i hi
     rcases aG i ro with h | h
     ·exact h
     ·exfalso
      obtain ⟨h1,h2⟩:=oH hi
      rw [hlen] at h1
      obtain ⟨v,hv'⟩:=rh (hw i h h1)
      have:=wb hnd (λq hq=>by rw [hlen];exact hko q hq) hv'
      rw [h2,hlr] at this
      cases this
    have hιc:ι' c=ι c:=by
     cases hi:idxN ρc c with
     | none=>exact hs2 c hi
     | some i=>
      rw [hs1 c i hi]
      have hlti:=hlt i hi
      rcases hcase hi with ⟨h1,rfl⟩ | ⟨j,rfl,h2,rfl⟩
      ·exact hsame i h1 (by omega)
      ·exfalso
       rcases aG (ρ.length+j) ro with _ | h
       ·have hb0:ι (fr+j)=none:=hfr _ (by omega) (by simp only;omega)
        rcases hW.blk _ y hl0 (by rintro rfl;exact hd rfl) with ⟨q,_,q3,_⟩ | ⟨q3,_⟩<;>(rw [hb0] at q3;cases q3)
       ·omega
    refine (hW.blk c y hl0 (by rintro rfl;exact hd rfl)).map hιc (λq hq=>hheap c q hq hlt) (λq o hbr=>BR.kill (λb hb q hq=>?_) hbr) (by rintro t rfl;rfl)
    cases hi:idxN ρc b with
    | none=>rw [hs2 b hi];exact hq
    | some i=>
     rw [hs1 b i hi]
     rcases hcase hi with ⟨h1,rfl⟩ | ⟨j,_,h2,rfl⟩
     ·rw [hsame i h1 ?_];exact hq
      rcases aG i rb with h | h
      ·exact h
      ·rw [AN.2 (yW h h1)] at hb;cases hb
     ·rw [hfr _ (by omega) (by simp only;omega)] at hq;cases hq
 ·have h1:=pw hb
  obtain ⟨a1,a2⟩:=cZ h1
  have hge:ro<=b:=by
   unfold roI at hb
   rcases aG b ro with h' | h'
   ·rw [show Nat.blt b ro=true from dG h'] at hb;cases hb
   ·exact h'
  refine hno (getN ρ b) q ?_ hr
  rw [B7 (by rw [Bg];exact eJ.2 ⟨b,hw b hge (by omega),hold b a1⟩)]
  exact a2
 ·rw [<-hI] at g3
  cases e with
  | returned x=>exact ⟨g3.1,(VR.ren _ _ (by rw [hlen];exact hv)).2 g3.2⟩
  | panicked chain=>
   obtain ⟨p1,x,p2,p3⟩:=g3
   exact ⟨p1,x,p2,(VR.ren _ _ (by rw [hlen];exact hv)).2 p3⟩
  | outgrown=>exact g3
def funE {A R:Type} (f rb:Nat) (un:List V->List (Nat×Blk)->Option (A×List Nat)) (sh:A->Option R) (outK:(α:Type)->R->(FOut->Option α)->Option α):Ent:=
 ⟨f,λα args H fr k=>ob (un args H) λp=>ob (sh p.1) λr=>outK α r λo=>
  k { val:=V.ren (p.2++upTo fr o.news.length) o.val,pan:=o.pan,rd:=p.2,wr:=renH (p.2++upTo fr o.news.length) o.H,grow:=o.news.length,kill:=wz rb p.2 }⟩
theorem Qp {A R:Type} {f m ro rb:Nat} {un:List V->List (Nat×Blk)->Option (A×List Nat)} {sh:A->Option R} {outK:(α:Type)->R->(FOut->Option α)->Option α} {out:R->FOut}
  {arg:A->List V} {H0:A->List (Nat×Blk)} (hent:m4 P f) (hrr:ro<=rb) (hrm:ro<=m) (hoK:∀α r k,outK α r k=k (out r))
  (hun:∀l H a ρ,un l H=some (a,ρ)->ρ.length=m/\ρ.Nodup/\l=V.rens ρ (arg a)/\∀b blk,look (H0 a) b=some blk->look H (getN ρ b)=some (blk.ren ρ))
  (ha:∀a,V.lts m (arg a)=true) (hk0:∀a b blk,look (H0 a) b=some blk->b<m/\Blk.lt m blk=true) (hall:∀a,Az (H0 a) m=true) (hko:∀r,∀b∈keys (out r).H,b<m+(out r).news.length)
  (hlo:∀r b blk,look (out r).H b=some blk->Blk.lt (m+(out r).news.length) blk=true) (hw:∀r b,ro<=b->b<m+(out r).news.length->b∈keys (out r).H) (hv:∀r,V.lt (m+(out r).news.length) (out r).val=true)
  (h:∀a r,sh a=some r->He P f (arg a) (H0 a) m ro rb (out r)):gN P (funE f rb un sh outK):=by
 intro α args H fr k z hk
 simp only [funE] at hk
 obtain ⟨⟨a,ρ⟩,h1,hk1⟩:=av hk
 obtain ⟨r,h2,hk2⟩:=av hk1
 rw [hoK] at hk2
 obtain ⟨g1,g2,g3,g4⟩:=hun args H a ρ h1
 subst g3
 refine ⟨_,hk2,λH' hH'=>.inl ⟨hent,(h a r h2).call hrr hrm g1 g2 (ha a) (hk0 a) (hall a) (hko r) (hlo r) (hw r) (hv r) (λb blk hl=>?_) fr⟩⟩
 have hb:=(hk0 a b blk hl).1
 rw [hH' _ (mL (by rw [g1];exact hb))]
 exact g4 b blk hl
def Nw (Q:Nat->Blk->Prop):List (Nat×Blk)->Prop
 | []=>True
 | (b,x)::l=>Q b x/\Nw Q l
theorem yf {Q:Nat->Blk->Prop}:∀{l:List (Nat×Blk)},Nw Q l->∀b x,look l b=some x->Q b x
 | [],_,b,x,h=>by cases h
 | (c,y)::l,h,b,x,hl=>by
  rw [aU] at hl
  split at hl
  ·rename_i e;subst e
   simp only [aq] at hl;subst hl
   exact h.1
  ·exact yf h.2 b x hl
def chkH (m:Nat) (H:List (Nat×Blk)):Bool:=H.all λp=>Nat.blt p.1 m&&Blk.lt m p.2
theorem qa {m:Nat}:∀{H:List (Nat×Blk)},chkH m H=true->∀b x,look H b=some x->b<m/\Blk.lt m x=true
 | [],_,b,x,h=>by cases h
 | (c,y)::l,h,b,x,hl=>by
  simp only [chkH,oG,az] at h
  rw [aU] at hl
  split at hl
  ·rename_i e;subst e
   simp only [aq] at hl;subst hl
   exact ⟨aI h.1.1,h.1.2⟩
  ·exact qa (H:=l) h.2 b x hl
theorem CY {m:Nat} {H:List (Nat×Blk)} (h:chkH m H=true):∀b∈keys H,b<m:=by
 intro b hb
 simp only [keys,eJ] at hb
 obtain ⟨p,hp,rfl⟩:=hb
 simp only [chkH,dF,az] at h
 exact aI (h p hp).1
end Go.Abs
