/- A region that draws its order: where what is unordered does not meet, every order comes to what the order of the text comes to.
   Conditions: none; generic over the program. -/
import Derived.Test.YtpkdacjndoiabaaGreatDoorAbsM
set_option linter.unusedSimpArgs false
namespace Go.Abs
variable {P:Program}
structure Rec where
 dst:Option Nat
 val:Option V
 wr:List (Nat×Blk)
 rd:List Nat
def St.put (s:St) (r:Rec):St:=s.app r.dst r.val r.wr s.nb
def keys (wr:List (Nat×Blk)):List Nat:=wr.map (·.1)
theorem pC {α:Type} (l m:List (Nat×α)) (n:Nat):look (l++m) n=(look l n).or (look m n):=by
 induction l with
 | nil=>rfl
 | cons x l ih=>
  obtain ⟨k,v⟩:=x
  rw [fP,aU,aU]
  split
  ·rfl
  ·exact ih
theorem qJ {α:Type} {l:List (Nat×α)} {n:Nat} (h:n∉l.map (·.1)):look l n=none:=by
 induction l with
 | nil=>rfl
 | cons x l ih=>
  obtain ⟨k,v⟩:=x
  simp only [fE,dl,not_or] at h
  rw [aU,ab (λe=>h.1 e.symm)]
  exact ih h.2
theorem rh {α:Type} {l:List (Nat×α)} {n:Nat} (h:n∈l.map (·.1)):∃v,look l n=some v:=by
 induction l with
 | nil=>simp at h
 | cons x l ih=>
  obtain ⟨k,v⟩:=x
  rw [aU]
  split
  ·exact ⟨v,rfl⟩
  ·rename_i hne
   simp only [fE,dl] at h
   exact ih (h.resolve_left λe=>hne e.symm)
theorem Ns (s:St) (r:Rec) (t:Nat):look (s.put r).T t=if r.dst=some t then some r.val else look s.T t:=by
 unfold St.put St.app
 cases hd:r.dst with
 | none=>simp
 | some d=>
  simp only [aU]
  by_cases h:d=t
  ·subst h;simp
  ·simp [h]
theorem MW (s:St) (r:Rec) (b:Nat):look (s.put r).H b=(look r.wr b).or (look s.H b):=pC _ _ _
theorem TK (s:St) (r:Rec):(s.put r).nb=s.nb:=rfl
structure Eqv (s s':St):Prop where
 T:∀t,look s.T t=look s'.T t
 H:∀b,look s.H b=look s'.H b
 nb:s.nb=s'.nb
 lo:s.lo=s'.lo
 ro:s.ro=s'.ro
 rb:s.rb=s'.rb
theorem Eqv.refl (s:St):Eqv s s:=⟨λ_=>rfl,λ_=>rfl,rfl,rfl,rfl,rfl⟩
theorem Eqv.symm {s s':St} (h:Eqv s s'):Eqv s' s:=⟨λt=>(h.T t).symm,λb=>(h.H b).symm,h.nb.symm,h.lo.symm,h.ro.symm,h.rb.symm⟩
theorem Eqv.trans {a b c:St} (h:Eqv a b) (k:Eqv b c):Eqv a c:=⟨λt=>(h.T t).trans (k.T t),λt=>(h.H t).trans (k.H t),h.nb.trans k.nb,h.lo.trans k.lo,h.ro.trans k.ro,h.rb.trans k.rb⟩
theorem Eqv.put {s s':St} (h:Eqv s s') (r:Rec):Eqv (s.put r) (s'.put r):=
 ⟨λt=>by rw [Ns,Ns,h.T],λb=>by rw [MW,MW,h.H],h.nb,h.lo,h.ro,h.rb⟩
theorem Eqv.puts:∀(l:List Rec) {s s':St},Eqv s s'->Eqv (l.foldl St.put s) (l.foldl St.put s')
 | [],_,_,h=>h
 | r::l,_,_,h=>Eqv.puts l (h.put r)
theorem Inv.eqv {n:Nat} {ι0 ι:Inj} {w0:Base} {s s':St} {a:Act} {w:World} (h:Inv n ι0 w0 ι s a w) (e:Eqv s s'):Inv n ι0 w0 ι s' a w:=
 ⟨h.size,h.defers,λt v hv=>h.tmps t v (by rw [e.T];exact hv),⟨h.mem.inj,λb r hb=>by rw [<-e.nb];exact h.mem.low b r hb,h.mem.dom,λb blk hl hd=>h.mem.blk b blk (by rw [e.H];exact hl) hd⟩,by rw [<-e.rb];exact h.ext,h.new,by rw [<-e.ro];exact h.fr,λb r hb=>by rw [<-e.lo];exact h.low b r hb,by rw [<-e.ro];exact h.fz,by rw [<-e.ro];exact h.gl⟩
def appD:Nat->List Rec->(Nat->Bool)->St->St
 | _,[],_,s=>s
 | i,r::l,D,s=>appD (i+1) l D (if D i=true then s.put r else s)
def wT:Nat->List Rec->(Nat->Bool)->Nat->Option (Option V)->Option (Option V)
 | _,[],_,_,x=>x
 | i,r::l,D,t,x=>wT (i+1) l D t (if D i=true/\r.dst=some t then some r.val else x)
def xA:Nat->List Rec->(Nat->Bool)->Nat->Option Blk->Option Blk
 | _,[],_,_,x=>x
 | i,r::l,D,b,x=>xA (i+1) l D b (if D i=true then (look r.wr b).or x else x)
theorem yK:∀(l:List Rec) (i:Nat) (D:Nat->Bool) (s:St) (t:Nat),look (appD i l D s).T t=wT i l D t (look s.T t)
 | [],_,_,_,_=>rfl
 | r::l,i,D,s,t=>by
  simp only [appD,wT,yK l]
  congr 1
  cases D i
  ·simp
  ·simp only [js,aQ]
   rw [Ns]
theorem xf:∀(l:List Rec) (i:Nat) (D:Nat->Bool) (s:St) (b:Nat),look (appD i l D s).H b=xA i l D b (look s.H b)
 | [],_,_,_,_=>rfl
 | r::l,i,D,s,b=>by
  simp only [appD,xA,xf l]
  congr 1
  cases D i
  ·simp
  ·simp only [aQ]
   rw [MW]
theorem lg:∀(l:List Rec) (i:Nat) (D:Nat->Bool) (s:St),(appD i l D s).nb=s.nb
 | [],_,_,_=>rfl
 | r::l,i,D,s=>by
  simp only [appD,lg l]
  split<;>rfl
theorem iU:∀(l:List Rec) (i:Nat) (D:Nat->Bool) (s:St),(appD i l D s).ro=s.ro
 | [],_,_,_=>rfl
 | r::l,i,D,s=>by
  simp only [appD,iU l]
  split<;>rfl
theorem wc:∀(l:List Rec) (i:Nat) (D:Nat->Bool) (s:St),(appD i l D s).lo=s.lo
 | [],_,_,_=>rfl
 | r::l,i,D,s=>by
  simp only [appD,wc l]
  split<;>rfl
theorem vO:∀(l:List Rec) (i:Nat) (D:Nat->Bool) (s:St),(appD i l D s).rb=s.rb
 | [],_,_,_=>rfl
 | r::l,i,D,s=>by
  simp only [appD,vO l]
  split<;>rfl
theorem rV:∀(l:List Rec) (i:Nat) (D D':Nat->Bool) (t:Nat) (x:Option (Option V)),(∀j r,l[j]?=some r->r.dst=some t->D (i+j)=D' (i+j))->wT i l D t x=wT i l D' t x
 | [],_,_,_,_,_,_=>rfl
 | r::l,i,D,D',t,x,h=>by
  simp only [wT]
  have h0:=h 0 r (by simp)
  simp only [cD] at h0
  rw [rV l (i+1) D D' t _ λj r' hj hr=>by have:=h (j+1) r' (by simpa using hj) hr;rwa [show i+(j+1)=i+1+j by omega] at this]
  congr 1
  by_cases hd:r.dst=some t
  ·rw [h0 hd]
  ·simp [hd]
theorem xX (l:List Rec) (i:Nat) (D:Nat->Bool) (t:Nat) (x:Option (Option V)) (h:∀j r,l[j]?=some r->r.dst=some t->D (i+j)=false):wT i l D t x=x:=by
 induction l generalizing i x with
 | nil=>rfl
 | cons r l ih=>
  simp only [wT]
  have h0:=h 0 r (by simp)
  simp only [cD] at h0
  have:¬(D i=true/\r.dst=some t):=λ⟨h1,h2⟩=>by rw [h0 h2] at h1;cases h1
  rw [ab this]
  exact ih (i+1) x λj r' hj hr=>by have:=h (j+1) r' (by simpa using hj) hr;rwa [show i+(j+1)=i+1+j by omega] at this
theorem Gz:∀(l:List Rec) (i j:Nat) (D:Nat->Bool) (t:Nat) (x:Option (Option V)) (r:Rec),l[j]?=some r->D (i+j)=true->r.dst=some t->
  (∀k r',j<k->l[k]?=some r'->r'.dst=some t->D (i+k)=false)->wT i l D t x=some r.val
 | [],_,_,_,_,_,_,h,_,_,_=>by simp at h
 | r0::l,i,0,D,t,x,r,h,hD,hd,hno=>by
  simp only [lD,aq] at h;subst h
  simp only [cD] at hD
  simp only [wT]
  rw [ae ⟨hD,hd⟩]
  exact xX l (i+1) D t _ λk r' hk hr=>by have:=hno (k+1) r' (by omega) (by simpa using hk) hr;rwa [show i+(k+1)=i+1+k by omega] at this
 | r0::l,i,j+1,D,t,x,r,h,hD,hd,hno=>by
  simp only [wT]
  exact Gz l (i+1) j D t _ r (by simpa using h) (by rwa [show i+1+j=i+(j+1) by omega]) hd λk r' hk hl hr=>by
   have:=hno (k+1) r' (by omega) (by simpa using hl) hr
   rwa [show i+(k+1)=i+1+k by omega] at this
theorem o7:∀(l:List Rec) (i:Nat) (D D':Nat->Bool) (b:Nat) (x:Option Blk),(∀j r,l[j]?=some r->b∈keys r.wr->D (i+j)=D' (i+j))->xA i l D b x=xA i l D' b x
 | [],_,_,_,_,_,_=>rfl
 | r::l,i,D,D',b,x,h=>by
  simp only [xA]
  have h0:=h 0 r (by simp)
  simp only [cD] at h0
  rw [o7 l (i+1) D D' b _ λj r' hj hr=>by have:=h (j+1) r' (by simpa using hj) hr;rwa [show i+(j+1)=i+1+j by omega] at this]
  congr 1
  by_cases hd:b∈keys r.wr
  ·rw [h0 hd]
  ·simp [qJ hd]
theorem GY (l:List Rec) (i:Nat) (D:Nat->Bool) (b:Nat) (x:Option Blk) (h:∀j r,l[j]?=some r->b∈keys r.wr->D (i+j)=false):xA i l D b x=x:=by
 induction l generalizing i x with
 | nil=>rfl
 | cons r l ih=>
  simp only [xA]
  have h0:=h 0 r (by simp)
  simp only [cD] at h0
  have:(if D i=true then (look r.wr b).or x else x)=x:=by
   by_cases hd:b∈keys r.wr
   ·rw [h0 hd];simp
   ·rw [qJ hd];simp
  rw [this]
  exact ih (i+1) x λj r' hj hr=>by have:=h (j+1) r' (by simpa using hj) hr;rwa [show i+(j+1)=i+1+j by omega] at this
theorem Ff:∀(l:List Rec) (i j:Nat) (D:Nat->Bool) (b:Nat) (x:Option Blk) (r:Rec),l[j]?=some r->D (i+j)=true->b∈keys r.wr->
  (∀k r',j<k->l[k]?=some r'->b∈keys r'.wr->D (i+k)=false)->xA i l D b x=look r.wr b
 | [],_,_,_,_,_,_,h,_,_,_=>by simp at h
 | r0::l,i,0,D,b,x,r,h,hD,hd,hno=>by
  simp only [lD,aq] at h;subst h
  simp only [cD] at hD
  simp only [xA]
  obtain ⟨v,hv⟩:=rh hd
  rw [ae hD,hv]
  exact GY l (i+1) D b _ λk r' hk hr=>by have:=hno (k+1) r' (by omega) (by simpa using hk) hr;rwa [show i+(k+1)=i+1+k by omega] at this
 | r0::l,i,j+1,D,b,x,r,h,hD,hd,hno=>by
  simp only [xA]
  exact Ff l (i+1) j D b _ r (by simpa using h) (by rwa [show i+1+j=i+(j+1) by omega]) hd λk r' hk hl hr=>by
   have:=hno (k+1) r' (by omega) (by simpa using hl) hr
   rwa [show i+(k+1)=i+1+k by omega] at this
theorem pW:∀(l:List Rec) (i j:Nat) (s:St),Eqv ((l.take j).foldl St.put s) (appD i l (λm=>decide (m<i+j)) s)
 | [],i,j,s=>by simp [appD];exact Eqv.refl s
 | r::l,i,0,s=>by
  have:∀(l:List Rec) (i i':Nat) (s:St),i<=i'->appD i' l (λm=>decide (m<i)) s=s:=by
   intro l
   induction l with
   | nil=>intros;rfl
   | cons r l ih=>intro i i' s h;simp only [appD,show ¬i'<i by omega,m7,bP,aE];exact ih i (i'+1) s (by omega)
  simp only [nM,GE,cD]
  rw [this (r::l) i i s (aV _)]
  exact Eqv.refl s
 | r::l,i,j+1,s=>by
  simp only [pX,uE,appD,show i<i+(j+1) by omega,nY,aQ]
  have:=pW l (i+1) j (s.put r)
  rwa [show (λm=>decide (m<i+1+j))=λm=>decide (m<i+(j+1)) by funext m;simp only [nq];omega] at this
theorem AK:∀(l:List Rec) (i:Nat) (D:Nat->Bool) (s:St),(∀j,j<l.length->D (i+j)=true)->appD i l D s=l.foldl St.put s
 | [],_,_,_,_=>rfl
 | r::l,i,D,s,h=>by
  have h0:=h 0 (by simp)
  simp only [cD] at h0
  simp only [appD,h0,aQ,uE]
  exact AK l (i+1) D _ λj hj=>by have:=h (j+1) (by simpa using hj);rwa [show i+(j+1)=i+1+j by omega] at this
def t6 (P:Program) (n nb0:Nat) (ops:List Oper) (i:Nat) (o:Oper) (r:Rec) (base:St):Prop:=
 ∀s':St,(∀t∈o.looksAt ops.toArray,look s'.T t=look base.T t)->(∀b∈r.rd,look s'.H b=look base.H b)->s'.nb=base.nb->s'.ro=base.ro->
  ∀(ι0:Inj) (w0:Base) (ι:Inj) (a:Act) (w:World),Inv n ι0 w0 ι s' a w->(∀b,nb0+8*i<=b->b<nb0+8*i+8->ι b=none)->∀(K:Act->World->Prop) (Q:Exit->Act->World->Prop),
   (∀ι' a' w',(∀b,(b<nb0+8*i\/nb0+8*i+8<=b)->ι' b=ι b)->Inv n ι0 w0 ι' (s'.put r) a' w'->K a' w')->
   if Region.wanted o (yielded ops.toArray a.tmps) then o.wp P a w K Q else K (a.put o.dst undef) w
def yU (P:Program) (n nb0:Nat) (ops:List Oper) (i:Nat) (o:Oper) (v:V) (wr:List (Nat×Blk)) (rd:List Nat) (base:St):Prop:=
 ∀s':St,(∀t∈o.looksAt ops.toArray,look s'.T t=look base.T t)->(∀b∈rd,look s'.H b=look base.H b)->s'.nb=base.nb->s'.ro=base.ro->
  ∀(ι0:Inj) (w0:Base) (ι:Inj) (a:Act) (w:World),Inv n ι0 w0 ι s' a w->(∀b,nb0+8*i<=b->b<nb0+8*i+8->ι b=none)->∀(K:Act->World->Prop) (Q:Exit->Act->World->Prop),
   (∀ι' x w',VR ι' v x->Inv n ι0 w0 ι' (s'.app none none wr s'.nb) a w'->Q (.panic [{ v:=x,recovered:=false }]) a w')->
   Region.wanted o (yielded ops.toArray a.tmps)=true/\o.wp P a w K Q
theorem yU.eqv {n nb0:Nat} {ops:List Oper} {i:Nat} {o:Oper} {v:V} {wr:List (Nat×Blk)} {rd:List Nat} {base base':St} (h:yU P n nb0 ops i o v wr rd base) (e:Eqv base base'):yU P n nb0 ops i o v wr rd base':=
 λs' h1 h2 h3 h4=>h s' (λt ht=>by rw [h1 t ht,e.T]) (λb hb=>by rw [h2 b hb,e.H]) (by rw [h3,e.nb]) (by rw [h4,e.ro])
theorem t6.eqv {n nb0:Nat} {ops:List Oper} {i:Nat} {o:Oper} {r:Rec} {base base':St} (h:t6 P n nb0 ops i o r base) (e:Eqv base base'):t6 P n nb0 ops i o r base':=
 λs' h1 h2 h3 h4=>h s' (λt ht=>by rw [h1 t ht,e.T]) (λb hb=>by rw [h2 b hb,e.H]) (by rw [h3,e.nb]) (by rw [h4,e.ro])
theorem ym {α:Type} {ops:List Oper} {o:Oper} {s:St} {k:Bool->St->Option α} {z:α} (h:xi ops o s k=some z):
  ∃want s1,k want s1=some z/\Eqv s1 s/\∀s':St,(∀t∈o.looksAt ops.toArray,look s'.T t=look s.T t)->∀(n:Nat) (ι0 ι:Inj) (w0:Base) (a:Act) (w:World),Inv n ι0 w0 ι s' a w->
   Region.wanted o (yielded ops.toArray a.tmps)=want:=by
 unfold xi at h
 split at h
 ·rename_i hg
  exact ⟨true,s,h,Eqv.refl s,λ_ _ _ _ _ _ _ _ _=>by simp [Region.wanted,hg]⟩
 ·rename_i j want hg
  split at h
  case h_2=>cases h
  rename_i d hd
  have hmem:d∈o.looksAt ops.toArray:=by
   unfold Oper.looksAt
   unfold gtmp at hd
   split at hd
   ·rename_i oj hoj
    simp [hg,hoj,hd]
   ·cases hd
  have again:∀x,look s.T d=some (some (.b x))->Eqv { s with T:=(d,some (V.b x))::s.T } s:=by
   intro x hx
   refine ⟨λt=>?_,λ_=>rfl,rfl,rfl,rfl,rfl⟩
   show look ((d,some (V.b x))::s.T) t=look s.T t
   rw [aU]
   split
   ·rename_i e;subst e;exact hx.symm
   ·rfl
  split at h
  ·rename_i x hx
   cases x
   ·refine ⟨!want,_,h,again _ hx,λs' hs n ι0 ι w0 a w hI=>?_⟩
    obtain ⟨y,h1,h2⟩:=hI.tmps d _ (by rw [hs d hmem];exact hx)
    simp only [VR] at h2;subst h2
    have hy:=qX hd a.tmps
    rw [h1] at hy
    cases want<;>simp [Region.wanted,hg,hy]
   ·refine ⟨want,_,h,again _ hx,λs' hs n ι0 ι w0 a w hI=>?_⟩
    obtain ⟨y,h1,h2⟩:=hI.tmps d _ (by rw [hs d hmem];exact hx)
    simp only [VR] at h2;subst h2
    have hy:=qX hd a.tmps
    rw [h1] at hy
    cases want<;>simp [Region.wanted,hg,hy]
  ·rename_i hx
   refine ⟨false,s,h,Eqv.refl s,λs' hs n ι0 ι w0 a w hI=>?_⟩
   obtain ⟨y,h1,h2⟩:=hI.tmps d _ (by rw [hs d hmem];exact hx)
   simp only [VR] at h2
   obtain ⟨cs,rfl,_⟩:=h2
   have hy:=qX hd a.tmps
   rw [h1] at hy
   simp [Region.wanted,hg,hy]
  ·cases h
theorem wy {ops:Array Oper} {o:Oper} {s s':St} (h:∀t∈o.looksAt ops,look s'.T t=look s.T t):∀x∈o.op.operands.toList,opd s'.T x=opd s.T x:=by
 intro x hx
 cases x with
 | tmp t=>
  have:=h t (by
   unfold Oper.looksAt
   simp only [nU,List.mem_filterMap]
   exact .inl ⟨.tmp t,hx,rfl⟩)
  simp only [opd,this]
 | _=>rfl
theorem IX {α:Type} {E:List Ent} (hE:∀x∈E,gN P x) {n nb0:Nat} {ops:List Oper} {masks:List Nat} {p:Nat} {k:List TE->Option α} {z:α}:∀(l:List Oper) (i:Nat) (s:St) (tr:List TE),
  nb0+8*(i+l.length)<=s.nb->runB P E n nb0 ops masks p i l s tr k=some z->
  ∃(recs:List Rec) (trf:List TE),recs.length=l.length/\k trf=some z/\(∀x∈tr,x∈trf)/\
   (∀j r,recs[j]?=some r->(⟨i+j,r.rd,keys r.wr⟩:TE)∈trf\/(r.rd=[]/\r.wr=[]))/\
   ∀(j:Nat) (o:Oper) (r:Rec),l[j]?=some o->recs[j]?=some r->r.dst=o.dst/\((getN masks (i+j)).testBit p=false->t6 P n nb0 ops (i+j) o r ((recs.take j).foldl St.put s))
 | [],i,s,tr,hnb,h=>⟨[],tr,rfl,h,λ_ h=>h,λj r h=>by simp at h,λj o r h=>by simp at h⟩
 | o::l,i,s,tr,hnb,h=>by
  simp only [aD] at hnb
  simp only [runB] at h
  have more:∀(r0:Rec) (tr1:List TE) (s2:St),r0.dst=o.dst->((getN masks i).testBit p=false->t6 P n nb0 ops i o r0 s)->Eqv s2 (s.put r0)->s.nb<=s2.nb->(∀x∈tr,x∈tr1)->((⟨i,r0.rd,keys r0.wr⟩:TE)∈tr1\/(r0.rd=[]/\r0.wr=[]))->
    runB P E n nb0 ops masks p (i+1) l s2 tr1 k=some z->∃(recs:List Rec) (trf:List TE),recs.length=(o::l).length/\k trf=some z/\(∀x∈tr,x∈trf)/\
   (∀j r,recs[j]?=some r->(⟨i+j,r.rd,keys r.wr⟩:TE)∈trf\/(r.rd=[]/\r.wr=[]))/\
   ∀(j:Nat) (o':Oper) (r:Rec),(o::l)[j]?=some o'->recs[j]?=some r->r.dst=o'.dst/\((getN masks (i+j)).testBit p=false->t6 P n nb0 ops (i+j) o' r ((recs.take j).foldl St.put s)):=by
   intro r0 tr1 s2 hd hl e2 hnb2 htr hte h
   obtain ⟨recs,trf,g1,g2,g4,g5,g6⟩:=IX hE l (i+1) s2 tr1 (by omega) h
   refine ⟨r0::recs,trf,by simp [g1],g2,λx hx=>g4 x (htr x hx),λj r hj=>?_,λj o' r ho hj=>?_⟩
   ·cases j with
    | zero=>simp only [lD,aq] at hj;subst hj;exact hte.imp (g4 _) id
    | succ j=>have:=g5 j r (by simpa using hj);rwa [show i+1+j=i+(j+1) by omega] at this
   ·cases j with
    | zero=>
     simp only [lD,aq] at ho hj;subst ho hj
     exact ⟨hd,hl⟩
    | succ j=>
     obtain ⟨p1,p2⟩:=g6 j o' r (by simpa using ho) (by simpa using hj)
     rw [show i+1+j=i+(j+1) by omega] at p2
     exact ⟨p1,λhb=>(p2 hb).eqv (by simpa using Eqv.puts (recs.take j) e2)⟩
  split at h
  ·rename_i hbit
   exact more ⟨o.dst,none,[],[]⟩ tr (s.app o.dst none [] s.nb) rfl (λhb=>by rw [hbit] at hb;cases hb) (Eqv.refl _) (aV _) (λ_ h=>h) (.inr ⟨rfl,rfl⟩) h
  obtain ⟨want,s1,h,e1,hw⟩:=ym h
  have hnb1:s1.nb=s.nb:=e1.nb
  cases want
  ·simp only at h
   split at h
   case h_2=>cases h
   rename_i hd
   refine more ⟨o.dst,some (.tp []),[],[]⟩ tr (s1.app o.dst (some (.tp [])) [] s1.nb) rfl (λ_ s' q1 q2 q3 q4 ι0 w0 ι a w hI hfr K Q hK=>?_) (e1.put ⟨o.dst,some (.tp []),[],[]⟩) (xK hnb1.symm) (λ_ h=>h) (.inr ⟨rfl,rfl⟩) h
   rw [hw s' q1 n ι0 ι w0 a w hI]
   simp only [bP,aE]
   exact hK ι _ _ (λ_ _=>rfl) (hI.skip hd)
  ·simp only at h
   rcases Bm hE (by omega) h with ⟨val,wr,rd,g,hk,hloc⟩ | ⟨v,wr,rd,hk,hloc⟩
   ·refine more ⟨o.dst,val,wr,rd⟩ (⟨i,rd,keys wr⟩::tr) (s1.app o.dst val wr s1.nb) rfl (λ_ s' q1 q2 q3 q4 ι0 w0 ι a w hI hfr K Q hK=>?_) (e1.put ⟨o.dst,val,wr,rd⟩) (xK hnb1.symm) (λx hx=>gq _ hx) (.inl (by simp [keys])) hk
    rw [hw s' q1 n ι0 ι w0 a w hI]
    simp only [aQ]
    refine hloc s' (wy λt ht=>by rw [q1 t ht,e1.T]) (λb hb=>by rw [q2 b hb,e1.H]) (by rw [q3,hnb1]) (by rw [q4,e1.ro]) ι0 w0 ι a w hI (by simpa using hfr) K Q λι' a' w' z1 z2=>hK ι' a' w' (by simpa using z1) z2
   ·cases hk
theorem zW {α:Type} {E:List Ent} (hE:∀x∈E,gN P x) {n nb0:Nat} {ops:List Oper} {masks:List Nat} {k:St->List TE->Option α} {kp:Nat->V->St->List TE->Option α} {z:α}:∀(l:List Oper) (i:Nat) (s:St) (tr:List TE),
  nb0+8*(i+l.length)<=s.nb->runD P E n nb0 ops masks kp i l s tr k=some z->
  (∃(recs:List Rec) (sf:St) (trf:List TE),recs.length=l.length/\k sf trf=some z/\Eqv sf (recs.foldl St.put s)/\(∀x∈tr,x∈trf)/\
   (∀j r,recs[j]?=some r->(⟨i+j,r.rd,keys r.wr⟩:TE)∈trf\/(r.rd=[]/\r.wr=[]))/\
   ∀(j:Nat) (o:Oper) (r:Rec),l[j]?=some o->recs[j]?=some r->r.dst=o.dst/\t6 P n nb0 ops (i+j) o r ((recs.take j).foldl St.put s))\/
  (∃(p:Nat) (op:Oper) (recs:List Rec) (sf:St) (sp:St) (trf:List TE) (v:V) (wr:List (Nat×Blk)) (rp:Rec),recs.length=l.length/\l[p]?=some op/\recs[p]?=some rp/\rp.dst=op.dst/\rp.wr=[]/\sp=sf.app none none wr sf.nb/\kp (i+p) v sp trf=some z/\Eqv sf ((recs.take p).foldl St.put s)/\(∀x∈tr,x∈trf)/\
   yU P n nb0 ops (i+p) op v wr rp.rd ((recs.take p).foldl St.put s)/\
   (∀j r,recs[j]?=some r->j≠p->(⟨i+j,r.rd,keys r.wr⟩:TE)∈trf\/(r.rd=[]/\r.wr=[]))/\
   ∀(j:Nat) (o:Oper) (r:Rec),l[j]?=some o->recs[j]?=some r->r.dst=o.dst/\((j<p\/(p<j/\(getN masks (i+j)).testBit (i+p)=false))->t6 P n nb0 ops (i+j) o r ((recs.take j).foldl St.put s)))
 | [],i,s,tr,hnb,h=>.inl ⟨[],s,tr,rfl,h,Eqv.refl s,λ_ h=>h,λj r h=>by simp at h,λj o r h=>by simp at h⟩
 | o::l,i,s,tr,hnb,h=>by
  simp only [aD] at hnb
  simp only [runD] at h
  obtain ⟨want,s1,h,e1,hw⟩:=ym h
  have hnb1:s1.nb=s.nb:=e1.nb
  have more:∀(r0:Rec) (tr1:List TE) (s2:St),r0.dst=o.dst->t6 P n nb0 ops i o r0 s->Eqv s2 (s.put r0)->s.nb<=s2.nb->(∀x∈tr,x∈tr1)->((⟨i,r0.rd,keys r0.wr⟩:TE)∈tr1\/(r0.rd=[]/\r0.wr=[]))->
    runD P E n nb0 ops masks kp (i+1) l s2 tr1 k=some z->
    (∃(recs:List Rec) (sf:St) (trf:List TE),recs.length=(o::l).length/\k sf trf=some z/\Eqv sf (recs.foldl St.put s)/\(∀x∈tr,x∈trf)/\
   (∀j r,recs[j]?=some r->(⟨i+j,r.rd,keys r.wr⟩:TE)∈trf\/(r.rd=[]/\r.wr=[]))/\
   ∀(j:Nat) (o':Oper) (r:Rec),(o::l)[j]?=some o'->recs[j]?=some r->r.dst=o'.dst/\t6 P n nb0 ops (i+j) o' r ((recs.take j).foldl St.put s))\/
    (∃(p:Nat) (op:Oper) (recs:List Rec) (sf:St) (sp:St) (trf:List TE) (v:V) (wr:List (Nat×Blk)) (rp:Rec),recs.length=(o::l).length/\(o::l)[p]?=some op/\recs[p]?=some rp/\rp.dst=op.dst/\rp.wr=[]/\sp=sf.app none none wr sf.nb/\kp (i+p) v sp trf=some z/\Eqv sf ((recs.take p).foldl St.put s)/\(∀x∈tr,x∈trf)/\
   yU P n nb0 ops (i+p) op v wr rp.rd ((recs.take p).foldl St.put s)/\
   (∀j r,recs[j]?=some r->j≠p->(⟨i+j,r.rd,keys r.wr⟩:TE)∈trf\/(r.rd=[]/\r.wr=[]))/\
   ∀(j:Nat) (o':Oper) (r:Rec),(o::l)[j]?=some o'->recs[j]?=some r->r.dst=o'.dst/\((j<p\/(p<j/\(getN masks (i+j)).testBit (i+p)=false))->t6 P n nb0 ops (i+j) o' r ((recs.take j).foldl St.put s))):=by
   intro r0 tr1 s2 hd hl e2 hnb2 htr hte h
   rcases zW hE l (i+1) s2 tr1 (by omega) h with ⟨recs,sf,trf,g1,g2,g3,g4,g5,g6⟩ | ⟨p,op,recs,sf,sp,trf,v,wr,rp,g1,g0,gr,gd,gw,gs,g2,g3,g4,g7,g5,g6⟩
   ·refine .inl ⟨r0::recs,sf,trf,by simp [g1],g2,g3.trans (Eqv.puts recs e2),λx hx=>g4 x (htr x hx),λj r hj=>?_,λj o' r ho hj=>?_⟩
    ·cases j with
     | zero=>simp only [lD,aq] at hj;subst hj;exact hte.imp (g4 _) id
     | succ j=>have:=g5 j r (by simpa using hj);rwa [show i+1+j=i+(j+1) by omega] at this
    ·cases j with
     | zero=>
      simp only [lD,aq] at ho hj;subst ho hj
      exact ⟨hd,hl⟩
     | succ j=>
      obtain ⟨p1,p2⟩:=g6 j o' r (by simpa using ho) (by simpa using hj)
      rw [show i+1+j=i+(j+1) by omega] at p2
      exact ⟨p1,p2.eqv (by simpa using Eqv.puts (recs.take j) e2)⟩
   ·rw [show i+1+p=i+(p+1) by omega] at g2 g7
    refine .inr ⟨p+1,op,r0::recs,sf,sp,trf,v,wr,rp,by simp [g1],by simpa using g0,by simpa using gr,gd,gw,gs,g2,g3.trans (by simpa using Eqv.puts (recs.take p) e2),λx hx=>g4 x (htr x hx),g7.eqv (by simpa using Eqv.puts (recs.take p) e2),λj r hj hjp=>?_,λj o' r ho hj=>?_⟩
    ·cases j with
     | zero=>simp only [lD,aq] at hj;subst hj;exact hte.imp (g4 _) id
     | succ j=>have:=g5 j r (by simpa using hj) (by omega);rwa [show i+1+j=i+(j+1) by omega] at this
    ·cases j with
     | zero=>
      simp only [lD,aq] at ho hj;subst ho hj
      exact ⟨hd,λ_=>hl⟩
     | succ j=>
      obtain ⟨p1,p2⟩:=g6 j o' r (by simpa using ho) (by simpa using hj)
      rw [show i+1+j=i+(j+1) by omega,show i+1+p=i+(p+1) by omega] at p2
      exact ⟨p1,λhc=>(p2 (hc.imp (λh=>by omega) λh=>⟨by omega,h.2⟩)).eqv (by simpa using Eqv.puts (recs.take j) e2)⟩
  cases want
  ·simp only at h
   split at h
   case h_2=>cases h
   rename_i hd
   refine more ⟨o.dst,some (.tp []),[],[]⟩ tr (s1.app o.dst (some (.tp [])) [] s1.nb) rfl (λs' q1 q2 q3 q4 ι0 w0 ι a w hI hfr K Q hK=>?_) (e1.put ⟨o.dst,some (.tp []),[],[]⟩) (xK hnb1.symm) (λ_ h=>h) (.inr ⟨rfl,rfl⟩) h
   rw [hw s' q1 n ι0 ι w0 a w hI]
   simp only [bP,aE]
   exact hK ι _ _ (λ_ _=>rfl) (hI.skip hd)
  ·simp only at h
   rcases Bm hE (by omega) h with ⟨val,wr,rd,g,hk,hloc⟩ | ⟨v,wr,rd,hk,hloc⟩
   ·refine more ⟨o.dst,val,wr,rd⟩ (⟨i,rd,keys wr⟩::tr) (s1.app o.dst val wr s1.nb) rfl (λs' q1 q2 q3 q4 ι0 w0 ι a w hI hfr K Q hK=>?_) (e1.put ⟨o.dst,val,wr,rd⟩) (xK hnb1.symm) (λx hx=>gq _ hx) (.inl (by simp [keys])) hk
    rw [hw s' q1 n ι0 ι w0 a w hI]
    simp only [aQ]
    refine hloc s' (wy λt ht=>by rw [q1 t ht,e1.T]) (λb hb=>by rw [q2 b hb,e1.H]) (by rw [q3,hnb1]) (by rw [q4,e1.ro]) ι0 w0 ι a w hI (by simpa using hfr) K Q λι' a' w' z1 z2=>hK ι' a' w' (by simpa using z1) z2
   ·obtain ⟨recs,trf,g1,g2,g4,g5,g6⟩:=IX hE l (i+1) _ tr (by simp only [St.app];omega) hk
    have e2:Eqv (s1.app o.dst none [] s1.nb) (s.put ⟨o.dst,none,[],rd⟩):=e1.put ⟨o.dst,none,[],rd⟩
    refine .inr ⟨0,o,⟨o.dst,none,[],rd⟩::recs,s1,_,trf,v,wr,⟨o.dst,none,[],rd⟩,by simp [g1],rfl,rfl,rfl,rfl,rfl,g2,e1,g4,λs' q1 q2 q3 q4 ι0 w0 ι a w hI hfr K Q hK=>?_,λj r hj hjp=>?_,λj o' r ho hj=>?_⟩
    ·simp only [nM,GE] at q1 q2 q3 q4
     exact ⟨hw s' q1 n ι0 ι w0 a w hI,hloc s' (wy λt ht=>by rw [q1 t ht,e1.T]) (λb hb=>by rw [q2 b hb,e1.H]) (by rw [q3,hnb1]) (by rw [q4,e1.ro]) ι0 w0 ι a w hI (by simpa using hfr) K Q hK⟩
    ·cases j with
     | zero=>exact absurd rfl hjp
     | succ j=>have:=g5 j r (by simpa using hj);rwa [show i+1+j=i+(j+1) by omega] at this
    ·cases j with
     | zero=>
      simp only [lD,aq] at ho hj;subst ho hj
      exact ⟨rfl,λh=>by omega⟩
     | succ j=>
      obtain ⟨p1,p2⟩:=g6 j o' r (by simpa using ho) (by simpa using hj)
      rw [show i+1+j=i+(j+1) by omega] at p2
      refine ⟨p1,λhc=>(p2 ?_).eqv (by simpa using Eqv.puts (recs.take j) e2)⟩
      rcases hc with hc | hc
      ·omega
      ·exact hc.2
def Down (ops:List Oper) (D:Nat->Bool):Prop:=∀j o e,ops[j]?=some o->D j=true->e∈o.after.toList->Region.binds .any e=true->D e.on=true
def Must (ops:List Oper) (i j:Nat):Prop:=∀D,Down ops D->D j=true->D i=true
def Dn (listed:Array Bool):Nat->Bool:=λi=>listed.getD i false
structure DrawFacts (P:Program) (n nb0:Nat) (ops:List Oper) (recs:List Rec) (s0:St) (live:Nat->Prop):Prop where
 len:recs.length=ops.length
 nb:s0.nb=nb0+8*ops.length
 loc:∀(j:Nat) (o:Oper) (r:Rec),ops[j]?=some o->recs[j]?=some r->(∀t,r.dst=some t->o.dst=some t)/\(live j->t6 P n nb0 ops j o r (appD 0 recs (λm=>decide (m<j)) s0))
 down:∀(j:Nat) (o:Oper) (e:Edge),ops[j]?=some o->e∈o.after.toList->Region.binds .any e=true->e.on<j
 apart:∀(i j:Nat) (x y:Oper),i<j->ops[i]?=some x->ops[j]?=some y->Must ops i j\/x.apart ops.toArray y=true
 blk:∀(i j:Nat) (x y:Rec),i<j->recs[i]?=some x->recs[j]?=some y->Must ops i j\/((∀b∈keys x.wr,b∉y.rd/\b∉keys y.wr)/\∀b∈x.rd,b∉keys y.wr)
theorem tt {ops:List Oper} {listed:Array Bool} {i:Nat} (hs:listed.size=ops.length) (h:i∈Region.ready .any ops.toArray listed):
  ∃o,ops[i]?=some o/\i<ops.length/\Dn listed i=false/\∀e∈o.after.toList,Region.binds .any e=true->Dn listed e.on=true:=by
 unfold Region.ready at h
 simp only [mY,kq,az,xl] at h
 obtain ⟨h1,h2,h3⟩:=h
 have ho:ops[i]?=some ops[i]:=by simp [h1]
 refine ⟨ops[i],ho,h1,?_,λe he hb=>?_⟩
 ·unfold Dn
  have:i<listed.size:=by omega
  simp only [qc,RB this,wv] at h2 ⊢
  simpa using h2
 ·simp only [List.getElem?_toArray,ho,eK,wv] at h3
  have:=(Array.all_eq_true'.1 h3) e (by simpa using he)
  simp only [hb,dn,xH] at this
  exact this
theorem Af {ops:List Oper} {listed:Array Bool} {i:Nat} {o:Oper} (hs:listed.size=ops.length) (ho:ops[i]?=some o) (hn:Dn listed i=false)
  (hd:∀e∈o.after.toList,Region.binds .any e=true->Dn listed e.on=true):i∈Region.ready .any ops.toArray listed:=by
 have hi:i<ops.length:=by
  rcases aG i ops.length with h' | h'
  ·exact h'
  ·rw [gU h'] at ho;cases ho
 unfold Region.ready
 simp only [mY,kq,az,xl]
 refine ⟨hi,?_,?_⟩
 ·have:i<listed.size:=by omega
  unfold Dn at hn
  simp only [qc,RB this,wv] at hn ⊢
  simp [hn]
 ·simp only [List.getElem?_toArray,ho,eK,wv]
  refine Array.all_eq_true'.2 λe he=>?_
  cases hb:Region.binds .any e with
  | false=>rfl
  | true=>
   have:=hd e (by simpa using he) hb
   unfold Dn at this
   simpa using this
theorem yg {listed:Array Bool} {i:Nat} (h:i<listed.size) (j:Nat):Dn (listed.setIfInBounds i true) j=if j=i then true else Dn listed j:=by
 unfold Dn
 simp only [qc]
 rw [QJ]
 by_cases hj:i=j
 ·subst hj;simp [h]
 ·simp [hj,show ¬j=i from λe=>hj e.symm]
theorem Down.add {ops:List Oper} {D:Nat->Bool} (h:Down ops D) {i:Nat} {o:Oper} (ho:ops[i]?=some o) (hd:∀e∈o.after.toList,Region.binds .any e=true->D e.on=true):
  Down ops λj=>if j=i then true else D j:=by
 intro j o' e hj hD he hb
 show (if e.on=i then true else D e.on)=true
 by_cases hji:j=i
 ·subst hji
  rw [ho] at hj;cases hj
  have:=hd e he hb
  split
  ·rfl
  ·exact this
 ·simp only [hji,aE] at hD
  have:=h j o' e hj hD he hb
  split
  ·rfl
  ·exact this
theorem Must.in {ops:List Oper} {D:Nat->Bool} (h:Down ops D) {i k:Nat} {o:Oper} (ho:ops[i]?=some o) (hd:∀e∈o.after.toList,Region.binds .any e=true->D e.on=true)
  (hm:Must ops k i) (hne:k≠i):D k=true:=by
 have:=hm _ (h.add ho hd) (by simp)
 simpa [hne] using this
section
variable {n nb0:Nat} {ops:List Oper} {recs:List Rec} {s0:St} {live:Nat->Prop} (F:DrawFacts P n nb0 ops recs s0 live)
include F
theorem w9 {i:Nat} {o:Oper} (h:ops[i]?=some o):∃r,recs[i]?=some r:=by
 have hi:i<ops.length:=by
  rcases aG i ops.length with h' | h'
  ·exact h'
  ·rw [gU h'] at h;cases h
 exact ⟨recs[i]'(by rw [F.len];exact hi),by simp [F.len,hi]⟩
theorem wF {i:Nat} {r:Rec} (h:recs[i]?=some r):∃o,ops[i]?=some o:=by
 have hi:i<recs.length:=by
  rcases aG i recs.length with h' | h'
  ·exact h'
  ·rw [gU h'] at h;cases h
 exact ⟨ops[i]'(by rw [<-F.len];exact hi),by simp [F.len▸hi]⟩
theorem Ax {D:Nat->Bool} (hD:Down ops D) {i:Nat} {o:Oper} (ho:ops[i]?=some o) (hn:D i=false) (hd:∀e∈o.after.toList,Region.binds .any e=true->D e.on=true)
  {t:Nat} (ht:t∈o.looksAt ops.toArray):look (appD 0 recs D s0).T t=look (appD 0 recs (λm=>decide (m<i)) s0).T t:=by
 rw [yK,yK]
 refine rV recs 0 _ _ t _ λj r hj hr=>?_
 simp only [cY]
 obtain ⟨oj,hoj⟩:=wF F hj
 have hdst:=((F.loc j oj r hoj hj).1 t hr).symm
 rcases DX j i with hlt | heq | hgt
 ·have h1:D j=true:=by
   rcases F.apart j i oj o hlt hoj ho with hm | hap
   ·exact hm.in hD ho hd (by omega)
   ·exact absurd ht ((DG hap).1 t hdst.symm)
  rw [h1];simp [hlt]
 ·subst heq;simp [hn]
 ·have h1:D j=false:=by
   rcases F.apart i j o oj hgt ho hoj with hm | hap
   ·cases hDj:D j with
    | false=>rfl
    | true=>have:=hm D hD hDj;rw [hn] at this;cases this
   ·exact absurd ht ((DG hap).2.2 t hdst.symm)
  rw [h1];simp;omega
theorem zD {D:Nat->Bool} (hD:Down ops D) {i:Nat} {o:Oper} {r:Rec} (ho:ops[i]?=some o) (hr:recs[i]?=some r) (hn:D i=false)
  (hd:∀e∈o.after.toList,Region.binds .any e=true->D e.on=true) {b:Nat} (hb:b∈r.rd):look (appD 0 recs D s0).H b=look (appD 0 recs (λm=>decide (m<i)) s0).H b:=by
 rw [xf,xf]
 refine o7 recs 0 _ _ b _ λj r' hj hw=>?_
 simp only [cY]
 rcases DX j i with hlt | heq | hgt
 ·have h1:D j=true:=by
   rcases F.blk j i r' r hlt hj hr with hm | hap
   ·exact hm.in hD ho hd (by omega)
   ·exact absurd hb (hap.1 b hw).1
  rw [h1];simp [hlt]
 ·subst heq;simp [hn]
 ·have h1:D j=false:=by
   rcases F.blk i j r r' hgt hr hj with hm | hap
   ·cases hDj:D j with
    | false=>rfl
    | true=>have:=hm D hD hDj;rw [hn] at this;cases this
   ·exact absurd hw (hap.2 b hb)
  rw [h1];simp;omega
theorem zH {D:Nat->Bool} (hD:Down ops D) {i:Nat} {o:Oper} {r:Rec} (ho:ops[i]?=some o) (hr:recs[i]?=some r) (hn:D i=false):
  Eqv ((appD 0 recs D s0).put r) (appD 0 recs (λj=>if j=i then true else D j) s0):=by
 have hdst:=(F.loc i o r ho hr).1
 refine ⟨λt=>?_,λb=>?_,by rw [TK,lg,lg],by show (appD 0 recs D s0).lo=_;rw [wc,wc],by show (appD 0 recs D s0).ro=_;rw [iU,iU],by show (appD 0 recs D s0).rb=_;rw [vO,vO]⟩
 ·rw [Ns,yK,yK]
  by_cases ht:r.dst=some t
  ·rw [ae ht]
   symm
   refine Gz recs 0 i _ t _ r hr (by simp) ht λk r' hk hk' hd'=>?_
   simp only [cY,show ¬k=i by omega,aE]
   obtain ⟨ok,hok⟩:=wF F hk'
   have hdk:=(F.loc k ok r' hok hk').1
   rcases F.apart i k o ok hk ho hok with hm | hap
   ·cases hDk:D k with
    | false=>rfl
    | true=>have:=hm D hD hDk;rw [hn] at this;cases this
   ·exact absurd (hdk t hd') ((DG hap).2.1 t (hdst t ht))
  ·rw [ab ht]
   refine rV recs 0 _ _ t _ λj r' hj hr'=>?_
   simp only [cY]
   by_cases hji:j=i
   ·subst hji;rw [hr] at hj;cases hj;exact absurd hr' ht
   ·simp [hji]
 ·rw [MW,xf,xf]
  by_cases hb:b∈keys r.wr
  ·obtain ⟨v,hv⟩:=rh hb
   rw [hv,Option.some_or]
   symm
   rw [<-hv]
   refine Ff recs 0 i _ b _ r hr (by simp) hb λk r' hk hk' hw=>?_
   simp only [cY,show ¬k=i by omega,aE]
   rcases F.blk i k r r' hk hr hk' with hm | hap
   ·cases hDk:D k with
    | false=>rfl
    | true=>have:=hm D hD hDk;rw [hn] at this;cases this
   ·exact absurd hw (hap.1 b hb).2
  ·rw [qJ hb,Et]
   refine o7 recs 0 _ _ b _ λj r' hj hw=>?_
   simp only [cY]
   by_cases hji:j=i
   ·subst hji;rw [hr] at hj;cases hj;exact absurd hw hb
   ·simp [hji]
theorem By {kk:Nat} (hlim:∀j,kk<=j->j<ops.length->live j) {ι0:Inj} {w0:Base} {Q:Exit->Act->World->Prop} (hQ:∀ι a w,Inv n ι0 w0 ι (recs.foldl St.put s0) a w->Q .normal a w):
  ∀(fuel:Nat) (listed:Array Bool) (ι:Inj) (a:Act) (w:World),listed.size=ops.length->(∀j,j<kk->Dn listed j=true)->Down ops (Dn listed)->Inv n ι0 w0 ι (appD 0 recs (Dn listed) s0) a w->
   (∀i,i<ops.length->Dn listed i=false->∀b,nb0+8*i<=b->b<nb0+8*i+8->ι b=none)->((List.range ops.length).filter λi=>!Dn listed i).length<=fuel->
   wpAny P .any ops.toArray Q fuel listed a w:=by
 have fin:∀(listed:Array Bool) (ι:Inj) (a:Act) (w:World),listed.size=ops.length->Inv n ι0 w0 ι (appD 0 recs (Dn listed) s0) a w->Region.ready .any ops.toArray listed=[]->Q .normal a w:=by
  intro listed ι a w hs hI hr
  have hall:∀j,j<ops.length->Dn listed j=true:=by
   intro j
   induction j using Nat.strongRecOn with
   | _ j ih=>
    intro hj
    cases hDj:Dn listed j with
    | true=>rfl
    | false=>
     have ho:ops[j]?=some ops[j]:=by simp [hj]
     have hm:=Af hs ho hDj λe he hb=>ih e.on (F.down j _ e ho he hb) (by have:=F.down j _ e ho he hb;omega)
     rw [hr] at hm;cases hm
  rw [AK recs 0 (Dn listed) s0 λj hj=>by simpa using hall j (by rw [<-F.len];exact hj)] at hI
  exact hQ ι a w hI
 intro fuel
 induction fuel with
 | zero=>
  intro listed ι a w hs hkk hD hI hfr hc
  have hr:Region.ready .any ops.toArray listed=[]:=by
   rw [List.eq_nil_iff_forall_not_mem]
   intro i hi
   obtain ⟨o,ho,hi',hn,_⟩:=tt hs hi
   have:i∈(List.range ops.length).filter λi=>!Dn listed i:=by simp [hi',hn]
   have:=Dx this
   omega
  exact ⟨hr,fin listed ι a w hs hI hr⟩
 | succ fuel ih=>
  intro listed ι a w hs hkk hD hI hfr hc
  refine ⟨fin listed ι a w hs hI,λi hi=>?_⟩
  obtain ⟨o,ho,hi',hn,hd⟩:=tt hs hi
  obtain ⟨r,hr⟩:=w9 F ho
  have hloc:=(F.loc i o r ho hr).2 (hlim i (by rcases aG i kk with h | h;(· have:=hkk i h;rw [hn] at this;cases this);exact h) hi')
  have hset:Dn (listed.setIfInBounds i true)=λj=>if j=i then true else Dn listed j:=by
   funext j;exact yg (by omega) j
  have hw:=hloc (appD 0 recs (Dn listed) s0) (λt ht=>Ax F hD ho hn hd ht) (λb hb=>zD F hD ho hr hn hd hb) (by rw [lg,lg]) (by rw [iU,iU]) ι0 w0 ι a w hI (hfr i hi' hn)
   (wpAny P .any ops.toArray Q fuel (listed.setIfInBounds i true)) Q λι' a' w' g1 g2=>by
    refine ih _ ι' a' w' (by simpa using hs) (λj hj=>by rw [hset];simp only;split;(· rfl);exact hkk j hj) (by rw [hset];exact hD.add ho hd) (by rw [hset];exact g2.eqv (zH F hD ho hr hn)) (λj hj hnj b hb1 hb2=>?_) ?_
    ·rw [hset] at hnj
     by_cases hji:j=i
     ·simp [hji] at hnj
     ·simp only [hji,aE] at hnj
      rw [g1 b (by omega)]
      exact hfr j hj hnj b hb1 hb2
    ·have:((List.range ops.length).filter λj=>!Dn (listed.setIfInBounds i true) j).length<((List.range ops.length).filter λj=>!Dn listed j).length:=by
      rw [hset]
      have hsub:((List.range ops.length).filter λj=>!(if j=i then true else Dn listed j))=((List.range ops.length).filter λj=>!Dn listed j).filter λj=>decide (j≠i):=by
       rw [F9]
       congr 1
       funext j
       by_cases hji:j=i<;>simp [hji]
      rw [hsub]
      refine zT.2 ⟨i,by simp [hi',hn],by simp⟩
     omega
  unfold wpOp
  have hoa:ops.toArray[i]?=some o:=by simpa using ho
  rw [hoa]
  simp only
  split
  ·rename_i hwt;rw [ae hwt] at hw;exact .inl hw
  ·rename_i hwt;rw [ab hwt] at hw;exact hw
theorem MM {lim kk:Nat} (hlt:lim<ops.length) (hlive:∀j,kk<=j->j<lim->live j/\Must ops j lim) (hdead:∀j,lim<j->j<ops.length->Must ops lim j) {ι0:Inj} {w0:Base} {Q:Exit->Act->World->Prop}
  (hQ:∀(fuel:Nat) (listed:Array Bool) (ι:Inj) (a:Act) (w:World),listed.size=ops.length->(∀j,j<lim->Dn listed j=true)->Dn listed lim=false->Down ops (Dn listed)->Down ops (Dn (listed.setIfInBounds lim true))->
   Inv n ι0 w0 ι (appD 0 recs (Dn listed) s0) a w->((List.range ops.length).filter λi=>!Dn listed i).length<=fuel+1->wpOp P ops.toArray Q lim (wpAny P .any ops.toArray Q fuel (listed.setIfInBounds lim true)) a w):
  ∀(fuel:Nat) (listed:Array Bool) (ι:Inj) (a:Act) (w:World),listed.size=ops.length->(∀j,j<kk->Dn listed j=true)->Down ops (Dn listed)->Dn listed lim=false->Inv n ι0 w0 ι (appD 0 recs (Dn listed) s0) a w->
   (∀i,i<ops.length->Dn listed i=false->∀b,nb0+8*i<=b->b<nb0+8*i+8->ι b=none)->((List.range ops.length).filter λi=>!Dn listed i).length<=fuel->
   wpAny P .any ops.toArray Q fuel listed a w:=by
 have fin:∀(listed:Array Bool),listed.size=ops.length->Dn listed lim=false->Region.ready .any ops.toArray listed=[]->False:=by
  intro listed hs hp hr
  have hall:∀j,j<ops.length->Dn listed j=true:=by
   intro j
   induction j using Nat.strongRecOn with
   | _ j ih=>
    intro hj
    cases hDj:Dn listed j with
    | true=>rfl
    | false=>
     have ho:ops[j]?=some ops[j]:=by simp [hj]
     have hm:=Af hs ho hDj λe he hb=>ih e.on (F.down j _ e ho he hb) (by have:=F.down j _ e ho he hb;omega)
     rw [hr] at hm;cases hm
  rw [hall lim hlt] at hp;cases hp
 intro fuel
 induction fuel with
 | zero=>
  intro listed ι a w hs hkk hD hp hI hfr hc
  have:lim∈(List.range ops.length).filter λi=>!Dn listed i:=by simp [hlt,hp]
  have:=Dx this
  omega
 | succ fuel ih=>
  intro listed ι a w hs hkk hD hp hI hfr hc
  refine ⟨λhr=>(fin listed hs hp hr).elim,λi hi=>?_⟩
  obtain ⟨o,ho,hi',hn,hd⟩:=tt hs hi
  obtain ⟨r,hr⟩:=w9 F ho
  have hset:Dn (listed.setIfInBounds i true)=λj=>if j=i then true else Dn listed j:=by
   funext j;exact yg (by omega) j
  by_cases hil:i=lim
  ·subst hil
   refine hQ fuel listed ι a w hs (λj hj=>?_) hn hD (by rw [hset];exact hD.add ho hd) hI hc
   rcases aG j kk with h | h
   ·exact hkk j h
   ·exact (hlive j h hj).2.in hD ho hd (by omega)
  have hoa:ops.toArray[i]?=some o:=by simpa using ho
  unfold wpOp
  rw [hoa]
  simp only
  have hlt':i<lim:=by
   rcases aG i lim with h | h
   ·exact h
   ·have:=(hdead i (by omega) hi').in hD ho hd (λe=>hil e.symm)
    rw [hp] at this;cases this
  have hge:kk<=i:=by
   rcases aG i kk with h | h
   ·have:=hkk i h;rw [hn] at this;cases this
   ·exact h
  have hloc:=(F.loc i o r ho hr).2 (hlive i hge hlt').1
  have hw:=hloc (appD 0 recs (Dn listed) s0) (λt ht=>Ax F hD ho hn hd ht) (λb hb=>zD F hD ho hr hn hd hb) (by rw [lg,lg]) (by rw [iU,iU]) ι0 w0 ι a w hI (hfr i hi' hn)
   (wpAny P .any ops.toArray Q fuel (listed.setIfInBounds i true)) Q λι' a' w' g1 g2=>by
    refine ih _ ι' a' w' (by simpa using hs) (λj hj=>by rw [hset];simp only;split;(· rfl);exact hkk j hj) (by rw [hset];exact hD.add ho hd) (by rw [hset];simp only [show ¬lim=i by omega,aE];exact hp) (by rw [hset];exact g2.eqv (zH F hD ho hr hn)) (λj hj hnj b hb1 hb2=>?_) ?_
    ·rw [hset] at hnj
     by_cases hji:j=i
     ·simp [hji] at hnj
     ·simp only [hji,aE] at hnj
      rw [g1 b (by omega)]
      exact hfr j hj hnj b hb1 hb2
    ·have:((List.range ops.length).filter λj=>!Dn (listed.setIfInBounds i true) j).length<((List.range ops.length).filter λj=>!Dn listed j).length:=by
      rw [hset]
      have hsub:((List.range ops.length).filter λj=>!(if j=i then true else Dn listed j))=((List.range ops.length).filter λj=>!Dn listed j).filter λj=>decide (j≠i):=by
       rw [F9]
       congr 1
       funext j
       by_cases hji:j=i<;>simp [hji]
      rw [hsub]
      refine zT.2 ⟨i,by simp [hi',hn],by simp⟩
     omega
  split
  ·rename_i hwt;rw [ae hwt] at hw;exact .inl hw
  ·rename_i hwt;rw [ab hwt] at hw;exact hw
theorem N5 {lim:Nat} {ι0:Inj} {w0:Base} {Q:Exit->Act->World->Prop} {po:Oper} {pr:Rec} {v:V} {wr:List (Nat×Blk)} (hpo:ops[lim]?=some po) (hpr:recs[lim]?=some pr)
  (hlp:yU P n nb0 ops lim po v wr pr.rd (appD 0 recs (λm=>decide (m<lim)) s0))
  (hdead:∀j,j<ops.length->j≠lim->live j\/Must ops lim j)
  (hQ:∀D,Down ops D->(∀e∈po.after.toList,Region.binds .any e=true->D e.on=true)->D lim=false->∀ι x a w,VR ι v x->Inv n ι0 w0 ι ((appD 0 recs D s0).app none none wr s0.nb) a w->Q (.panic [{ v:=x,recovered:=false }]) a w):
  ∀(fuel:Nat) (listed:Array Bool) (ι:Inj) (a:Act) (w:World),listed.size=ops.length->Down ops (Dn listed)->Dn listed lim=false->Inv n ι0 w0 ι (appD 0 recs (Dn listed) s0) a w->
   (∀i,i<ops.length->Dn listed i=false->∀b,nb0+8*i<=b->b<nb0+8*i+8->ι b=none)->((List.range ops.length).filter λi=>!Dn listed i).length<=fuel->
   wpAny P .any ops.toArray Q fuel listed a w:=by
 have hlt:lim<ops.length:=by
  rcases aG lim ops.length with h' | h'
  ·exact h'
  ·rw [gU h'] at hpo;cases hpo
 have fin:∀(listed:Array Bool),listed.size=ops.length->Dn listed lim=false->Region.ready .any ops.toArray listed=[]->False:=by
  intro listed hs hp hr
  have hall:∀j,j<ops.length->Dn listed j=true:=by
   intro j
   induction j using Nat.strongRecOn with
   | _ j ih=>
    intro hj
    cases hDj:Dn listed j with
    | true=>rfl
    | false=>
     have ho:ops[j]?=some ops[j]:=by simp [hj]
     have hm:=Af hs ho hDj λe he hb=>ih e.on (F.down j _ e ho he hb) (by have:=F.down j _ e ho he hb;omega)
     rw [hr] at hm;cases hm
  rw [hall lim hlt] at hp;cases hp
 intro fuel
 induction fuel with
 | zero=>
  intro listed ι a w hs hD hp hI hfr hc
  have:lim∈(List.range ops.length).filter λi=>!Dn listed i:=by simp [hlt,hp]
  have:=Dx this
  omega
 | succ fuel ih=>
  intro listed ι a w hs hD hp hI hfr hc
  refine ⟨λhr=>(fin listed hs hp hr).elim,λi hi=>?_⟩
  obtain ⟨o,ho,hi',hn,hd⟩:=tt hs hi
  obtain ⟨r,hr⟩:=w9 F ho
  have hoa:ops.toArray[i]?=some o:=by simpa using ho
  unfold wpOp
  rw [hoa]
  simp only
  by_cases hil:i=lim
  case neg=>
   rcases hdead i hi' hil with hlv | hm
   case inr=>
    have:=hm.in hD ho hd (λe=>hil e.symm)
    rw [hp] at this;cases this
   have hloc:=(F.loc i o r ho hr).2 hlv
   have hset:Dn (listed.setIfInBounds i true)=λj=>if j=i then true else Dn listed j:=by
    funext j;exact yg (by omega) j
   have hw:=hloc (appD 0 recs (Dn listed) s0) (λt ht=>Ax F hD ho hn hd ht) (λb hb=>zD F hD ho hr hn hd hb) (by rw [lg,lg]) (by rw [iU,iU]) ι0 w0 ι a w hI (hfr i hi' hn)
    (wpAny P .any ops.toArray Q fuel (listed.setIfInBounds i true)) Q λι' a' w' g1 g2=>by
     refine ih _ ι' a' w' (by simpa using hs) (by rw [hset];exact hD.add ho hd) (by rw [hset];simp only [show ¬lim=i by omega,aE];exact hp) (by rw [hset];exact g2.eqv (zH F hD ho hr hn)) (λj hj hnj b hb1 hb2=>?_) ?_
     ·rw [hset] at hnj
      by_cases hji:j=i
      ·simp [hji] at hnj
      ·simp only [hji,aE] at hnj
       rw [g1 b (by omega)]
       exact hfr j hj hnj b hb1 hb2
     ·have:((List.range ops.length).filter λj=>!Dn (listed.setIfInBounds i true) j).length<((List.range ops.length).filter λj=>!Dn listed j).length:=by
       rw [hset]
       have hsub:((List.range ops.length).filter λj=>!(if j=i then true else Dn listed j))=((List.range ops.length).filter λj=>!Dn listed j).filter λj=>decide (j≠i):=by
        rw [F9]
        congr 1
        funext j
        by_cases hji:j=i<;>simp [hji]
       rw [hsub]
       refine zT.2 ⟨i,by simp [hi',hn],by simp⟩
      omega
   split
   ·rename_i hwt;rw [ae hwt] at hw;exact .inl hw
   ·rename_i hwt;rw [ab hwt] at hw;exact hw
  case pos=>
   subst hil
   rw [hpo] at ho;cases ho
   rw [hpr] at hr;cases hr
   obtain ⟨q1,q2⟩:=hlp (appD 0 recs (Dn listed) s0) (λt ht=>Ax F hD hpo hn hd ht) (λb hb=>zD F hD hpo hpr hn hd hb) (by rw [lg,lg]) (by rw [iU,iU]) ι0 w0 ι a w hI (hfr i hi' hn)
    (wpAny P .any ops.toArray Q fuel (listed.setIfInBounds i true)) Q λι' x w' g1 g2=>hQ _ hD hd hn ι' x a w' g1 (by rw [lg] at g2;exact g2)
   rw [ae q1]
   exact .inl q2
end
theorem BF:∀{l:List Nat} {j:Nat},l.length<=j->getN l j=0
 | [],_,_=>rfl
 | _::_,0,h=>by simp at h
 | _::l,j+1,h=>BF (l:=l) (by simpa using h)
theorem rJ:∀{l m:List Nat} {j:Nat},j<l.length->getN (l++m) j=getN l j
 | [],_,_,h=>by simp at h
 | _::_,_,0,_=>rfl
 | _::l,m,j+1,h=>rJ (l:=l) (m:=m) (by simpa using h)
theorem rC:∀(l:List Nat) (x:Nat),getN (l++[x]) l.length=x
 | [],_=>rfl
 | _::l,x=>rC l x
theorem rP (acc:List Nat):∀(l:List Edge) (s i:Nat),(BN acc l s).testBit i=true->s.testBit i=true\/∃e∈l,Region.binds .any e=true/\(e.on=i\/(getN acc e.on).testBit i=true)
 | [],s,i,h=>.inl h
 | e::l,s,i,h=>by
  simp only [BN] at h
  split at h
  ·rename_i hb
   rcases rP acc l _ i h with h1 | ⟨e',he',h2⟩
   ·simp only [Nat.testBit_or,gX] at h1
    rcases h1 with (h1 | h1) | h1
    ·exact .inl h1
    ·refine .inr ⟨e,by simp,hb,.inl ?_⟩
     rw [Nat.testBit_two_pow] at h1
     simpa using h1
    ·exact .inr ⟨e,by simp,hb,.inr h1⟩
   ·exact .inr ⟨e',gq _ he',h2⟩
  ·rcases rP acc l _ i h with h1 | ⟨e',he',h2⟩
   ·exact .inl h1
   ·exact .inr ⟨e',gq _ he',h2⟩
theorem pj (ops:List Oper):∀(r:List Oper) (acc:List Nat),(∀j,r[j]?=ops[acc.length+j]?)->(∀j i,(getN acc j).testBit i=true->Must ops i j)->
  ∀j i,(getN (km r acc) j).testBit i=true->Must ops i j
 | [],acc,_,h=>h
 | o::r,acc,hr,h=>by
  simp only [km]
  refine pj ops r _ (λj=>by have:=hr (j+1);simp only [EX] at this;rw [this];simp;congr 1;omega) λj i hb=>?_
  rcases DX j acc.length with hlt | heq | hgt
  ·rw [rJ hlt] at hb;exact h j i hb
  ·subst heq
   rw [rC] at hb
   have ho:ops[acc.length]?=some o:=by have:=hr 0;simpa using this.symm
   rcases rP acc _ _ _ hb with h1 | ⟨e,he,hbi,h1⟩
   ·simp at h1
   ·intro D hD hDj
    have h2:=hD acc.length o e ho hDj he hbi
    rcases h1 with rfl | h1
    ·exact h2
    ·exact h e.on i h1 D hD h2
  ·rw [BF (by simp;omega)] at hb;simp at hb
theorem jA:∀(l:List Oper) (i:Nat),qL i l=true->∀(j:Nat) (o:Oper) (e:Edge),l[j]?=some o->e∈o.after.toList->Region.binds .any e=true->e.on<i+j
 | [],_,_,_,_,_,h,_,_=>by simp at h
 | o::l,i,h,j,o',e,hj,he,hb=>by
  simp only [qL,az,dF] at h
  cases j with
  | zero=>
   simp only [lD,aq] at hj;subst hj
   have:=h.1 e he
   simp only [hb,dn,xH] at this
   exact aI this
  | succ j=>have:=jA l (i+1) h.2 j o' e (by simpa using hj) he hb;omega
theorem rG {ops:Array Oper} {o:Oper} {mask:Nat}:∀(l:List Oper) (i:Nat),sQ ops o mask i l=true->∀(j:Nat) (p:Oper),l[j]?=some p->mask.testBit (i+j)=true\/p.apart ops o=true
 | [],_,_,_,_,h=>by simp at h
 | q::l,i,h,j,p,hj=>by
  simp only [sQ,az,gX] at h
  cases j with
  | zero=>simp only [lD,aq] at hj;subst hj;exact h.1
  | succ j=>have:=rG l (i+1) h.2 j p (by simpa using hj);rwa [show i+1+j=i+(j+1) by omega] at this
theorem mF {ops:Array Oper} {masks:List Nat}:∀(l before:List Oper),tj ops masks before.length before l=true->∀(i j:Nat) (x y:Oper),i<before.length+j->(before++l)[i]?=some x->l[j]?=some y->
  (getN masks (before.length+j)).testBit i=true\/x.apart ops y=true
 | [],_,_,_,_,_,_,_,_,h=>by simp at h
 | o::l,before,h,i,j,x,y,hi,hx,hy=>by
  simp only [tj,az] at h
  cases j with
  | zero=>
   simp only [lD,aq] at hy;subst hy
   have:=rG before 0 h.1 i x (by rw [nh (by simpa using hi)] at hx;exact hx)
   simpa using this
  | succ j=>
   have h2:=h.2
   rw [show before.length+1=(before++[o]).length by simp] at h2
   have:=mF l (before++[o]) h2 i j x y (by simp;omega) (by simpa using hx) (by simpa using hy)
   rwa [show (before++[o]).length+j=before.length+(j+1) by simp;omega] at this
theorem pZ {masks:List Nat}:∀{tr:List TE},pm masks tr=true->∀x∈tr,∀y∈tr,x.i<y.i->xk masks x y=true\/xk masks y x=true
 | [],_,x,hx,_,_,_=>by cases hx
 | z::l,h,x,hx,y,hy,hlt=>by
  simp only [pm,az,dF] at h
  rcases dl.1 hx with hx1 | hx1
  ·subst hx1
   rcases dl.1 hy with hy1 | hy1
   ·subst hy1;omega
   ·exact .inl (h.1 y hy1)
  ·rcases dl.1 hy with hy1 | hy1
   ·subst hy1;exact .inr (h.1 x hx1)
   ·exact pZ h.2 x hx1 y hy1 hlt
theorem wG {x y:TE} (h:Pz x y=false):(∀b∈x.ws,b∉y.rd/\b∉y.ws)/\∀b∈x.rd,b∉y.ws:=by
 simp only [Pz,rE,sK,gX,not_or,List.contains_iff_mem] at h
 exact ⟨λb hb=>h.1 b hb,λb hb=>h.2 b hb⟩
theorem BG {masks:List Nat} {x y:TE} (h:xk masks x y=true\/xk masks y x=true) (hlt:x.i<y.i):
  (getN masks y.i).testBit x.i=true\/((∀b∈x.ws,b∉y.rd/\b∉y.ws)/\∀b∈x.rd,b∉y.ws):=by
 have h1:Nat.blt x.i y.i=true:=dG hlt
 have h2:Nat.blt y.i x.i=false:=by
  cases hb:Nat.blt y.i x.i with
  | false=>rfl
  | true=>have:y.i<x.i:=aI hb;omega
 rcases h with h | h
 ·simp only [xk,h1,aj,gX,kl] at h
  exact h.imp id wG
 ·simp only [xk,h2,af,gX,kl] at h
  refine h.imp id λh=>?_
  obtain ⟨a,b⟩:=wG h
  exact ⟨λc hc=>⟨λhr=>b c hr hc,λhw=>(a c hw).2 hc⟩,λc hc hw=>(a c hw).1 hc⟩
theorem ux:∀(ops:List Oper) {T:List (Nat×Option V)} (t:Nat) (v:V),look (HJ ops T) t=some (some v)->(∀o∈ops,o.dst≠some t)/\look T t=some (some v)
 | [],T,t,v,h=>⟨by simp,h⟩
 | o::l,T,t,v,h=>by
  simp only [HJ] at h
  split at h
  ·rename_i d hd
   rw [aU] at h
   split at h
   ·cases h
   ·rename_i hne
    obtain ⟨h1,h2⟩:=ux l t v h
    refine ⟨λx hx=>?_,h2⟩
    rcases dl.1 hx with rfl | hx
    ·rw [hd];intro e;cases e;exact hne rfl
    ·exact h1 x hx
  ·rename_i hd
   obtain ⟨h1,h2⟩:=ux l t v h
   refine ⟨λx hx=>?_,h2⟩
   rcases dl.1 hx with rfl | hx
   ·rw [hd];intro e;cases e
   ·exact h1 x hx
theorem Hv {α:Type} {E:List Ent} (hE:∀x∈E,gN P x) {n:Nat} {ops:List Oper} {s:St} {k:Ex->St->Option α} {z:α} (h:Dk P E n ops s k=some z) (id:Nat):
  SemC P n (.region id ops.toArray true) s λex s'=>k ex s'=some z:=by
 intro ι0 w0 ι a w hI
 unfold Dk at h
 split at h
 case h_2=>cases h
 rename_i hok
 simp only [az,Fa] at hok
 obtain ⟨⟨hb1,hb2,_⟩,hmix⟩:=hok
 have hmust:=pj ops ops [] (by simp) (λj i hb=>by simp [getN] at hb)
 have hI1:Inv n ι0 w0 ι { s with nb:=s.nb+8*ops.length } a { w with drawn:=w.drawn+1 }:=by
  have h1:=hI.drawn (w.drawn+1)
  exact ⟨h1.size,h1.defers,h1.tmps,⟨h1.mem.inj,λb r hb=>by have:=h1.mem.low b r hb;simp only;omega,h1.mem.dom,h1.mem.blk⟩,h1.ext,h1.new,h1.fr,h1.low,h1.fz,h1.gl⟩
 have hD0:∀i,Dn (Array.replicate ops.toArray.size false) i=false:=by
  intro i
  unfold Dn
  simp only [qc,TY]
  split<;>rfl
 have hno:∀(l:List Rec) (i:Nat) (D:Nat->Bool) (s:St),(∀j,D j=false)->appD i l D s=s:=by
  intro l
  induction l with
  | nil=>intros;rfl
  | cons r l ih=>intro i D s hD;simp only [appD,hD i,bP,aE];exact ih _ D s hD
 have pairs2:∀(trf:List TE) (x y:Rec) (i j:Nat),pm (km ops []) (trf.filter λx=>!(x.rd.isEmpty&&x.ws.isEmpty))=true->i<j->((⟨0+i,x.rd,keys x.wr⟩:TE)∈trf\/(x.rd=[]/\x.wr=[]))->((⟨0+j,y.rd,keys y.wr⟩:TE)∈trf\/(y.rd=[]/\y.wr=[]))->
   Must ops i j\/((∀b∈keys x.wr,b∉y.rd/\b∉keys y.wr)/\∀b∈x.rd,b∉keys y.wr):=by
  intro trf x y i j htr hlt hx hy
  rcases hx with hxm | ⟨hx1,hx2⟩
  ·rcases hy with hym | ⟨hy1,hy2⟩
   ·simp only [cY] at hxm hym
    by_cases he1:(x.rd=[]/\x.wr=[])
    ·exact .inr (by simp [he1.1,he1.2,keys])
    ·by_cases he2:(y.rd=[]/\y.wr=[])
     ·exact .inr (by simp [he2.1,he2.2,keys])
     ·have m1:(⟨i,x.rd,keys x.wr⟩:TE)∈trf.filter λx=>!(x.rd.isEmpty&&x.ws.isEmpty):=by
       refine mY.2 ⟨hxm,?_⟩
       simp only [keys,kl,Bc,AE]
       rcases FV (x.rd=[]) with h | h
       ·exact .inr (by simpa using λhw=>he1 ⟨h,hw⟩)
       ·exact .inl h
      have m2:(⟨j,y.rd,keys y.wr⟩:TE)∈trf.filter λx=>!(x.rd.isEmpty&&x.ws.isEmpty):=by
       refine mY.2 ⟨hym,?_⟩
       simp only [keys,kl,Bc,AE]
       rcases FV (y.rd=[]) with h | h
       ·exact .inr (by simpa using λhw=>he2 ⟨h,hw⟩)
       ·exact .inl h
      have:=BG (pZ htr _ m1 _ m2 hlt) hlt
      exact this.imp (hmust j i) λh=>h
   ·exact .inr (by simp [hy1,hy2,keys])
  ·exact .inr (by simp [hx1,hx2,keys])
 rcases zW hE ops 0 _ [] (by simp) h with ⟨recs,sf,trf,g1,g2,g3,_,g5,g6⟩ | ⟨p,po,recs,sf,sp,trf,v,wr,rp,g1,g0,gr,gd,gw,rfl,g2,g3,_,g7,g5,g6⟩
 ·split at g2
  case h_2=>cases g2
  rename_i htr
  have F:DrawFacts P n s.nb ops recs { s with nb:=s.nb+8*ops.length } (λ_=>True):=by
   refine ⟨g1,rfl,λj o r ho hr=>?_,λj o e ho he hb=>?_,λi j x y hlt hx hy=>?_,λi j x y hlt hx hy=>?_⟩
   ·obtain ⟨p1,p2⟩:=g6 j o r ho hr
    simp only [cY] at p2
    have e:=pW recs 0 j { s with nb:=s.nb+8*ops.length }
    simp only [cY] at e
    exact ⟨λt ht=>p1▸ht,λ_=>p2.eqv e⟩
   ·have:=jA ops 0 hb1 j o e ho he hb;omega
   ·have:=mF (masks:=km ops []) ops [] hb2 i j x y (by simpa using hlt) (by simpa using hx) hy
    simp only [bj,cY] at this
    exact this.imp (hmust j i) λh=>h
   ·exact pairs2 trf x y i j htr hlt (g5 i x hx) (g5 j y hy)
  refine wp_region_any hmix (By (kk:=0) F (λ_ _ _=>trivial) (λι' a' w' hI'=>⟨.normal,sf,ι',rfl,hI'.eqv g3.symm,g2⟩) _ _ ι a _ (by simp) (λj hj=>by omega) (λj o e _ hDj=>by rw [hD0 j] at hDj;cases hDj) (by rw [hno recs 0 _ _ hD0];exact hI1) (λi _ _ b hb _=>?_) ?_)
  ·exact hI.fresh b (by omega)
  ·have:=Aa (λi=>!Dn (Array.replicate ops.toArray.size false) i) (List.range ops.length)
   simpa using this
 ·split at g2
  case h_2=>cases g2
  rename_i hpk
  simp only [az,SD] at hpk
  obtain ⟨hw,htr⟩:=hpk
  simp only [cY] at g2 g7 hw
  have hlt:p<ops.length:=by
   rcases aG p ops.length with h' | h'
   ·exact h'
   ·rw [gU h'] at g0;cases g0
  have hahead:∀i r,recs[i]?=some r->i≠p->(i<p/\Must ops i p)\/r.wr=[]:=by
   intro i r hr hip
   rcases g5 i r hr hip with hx | hx
   ·have:=(dF.1 hw) _ hx
    simp only [cY,gX,az] at this
    rcases this with h | h
    ·right;simpa [keys] using h
    ·exact .inl ⟨aI h.1,hmust p i h.2⟩
   ·exact .inr hx.2
  have g5':∀(j:Nat) (r:Rec),recs[j]?=some r->j≠p->(⟨0+j,r.rd,keys r.wr⟩:TE)∈trf\/(r.rd=[]/\r.wr=[]):=g5
  have F:DrawFacts P n s.nb ops recs { s with nb:=s.nb+8*ops.length } (λj=>j<p\/(p<j/\(getN (km ops []) (0+j)).testBit (0+p)=false)):=by
   refine ⟨g1,rfl,λj o r ho hr=>?_,λj o e ho he hb=>?_,λi j x y hij hx hy=>?_,λi j x y hij hx hy=>?_⟩
   ·obtain ⟨p1,p2⟩:=g6 j o r ho hr
    have e:=pW recs 0 j { s with nb:=s.nb+8*ops.length }
    simp only [cY] at e p2 ⊢
    exact ⟨λt ht=>p1▸ht,λhc=>(p2 hc).eqv e⟩
   ·have:=jA ops 0 hb1 j o e ho he hb;omega
   ·have:=mF (masks:=km ops []) ops [] hb2 i j x y (by simpa using hij) (by simpa using hx) hy
    simp only [bj,cY] at this
    exact this.imp (hmust j i) λh=>h
   ·by_cases hip:i=p
    ·
     subst hip
     rw [gr] at hx;cases hx
     rcases hahead j y hy (by omega) with ⟨h,_⟩ | h
     ·omega
     ·exact .inr (by simp [gw,h,keys])
    ·by_cases hjp:j=p
     ·subst hjp
      rw [gr] at hy;cases hy
      rcases hahead i x hx hip with ⟨_,h⟩ | h
      ·exact .inl h
      ·exact .inr (by simp [gw,h,keys])
     ·exact pairs2 trf x y i j htr hij (g5 i x hx hip) (g5 j y hy hjp)
  have ebase:Eqv ((recs.take p).foldl St.put { s with nb:=s.nb+8*ops.length }) (appD 0 recs (λm=>decide (m<p)) { s with nb:=s.nb+8*ops.length }):=by
   have e:=pW recs 0 p { s with nb:=s.nb+8*ops.length }
   simpa using e
  have hdead:∀j,j<ops.length->j≠p->(j<p\/(p<j/\(getN (km ops []) (0+j)).testBit (0+p)=false))\/Must ops p j:=by
   intro j _ hne
   cases hb:(getN (km ops []) (0+j)).testBit (0+p) with
   | false=>exact .inl ((Nat.lt_or_gt_of_ne hne).imp (λh=>h) λh=>⟨h,rfl⟩)
   | true=>simp only [cY] at hb;exact .inr (hmust j p hb)
  refine wp_region_any hmix (N5 F g0 gr (g7.eqv ebase) hdead (λD hD hd hn ι' x a' w' hv hI'=>⟨.pan v,_,ι',⟨x,rfl,hv⟩,?inv,g2⟩) _ _ ι a _ (by simp) (λj o e _ hDj=>by rw [hD0 j] at hDj;cases hDj) (hD0 p) (by rw [hno _ 0 _ _ hD0];exact hI1) (λi _ _ b hb _=>?fresh) ?len)
  case inv=>
   have hH:∀b,look sf.H b=look (appD 0 recs D { s with nb:=s.nb+8*ops.length }).H b:=by
    intro b
    rw [g3.H,ebase.H,xf,xf]
    refine o7 _ 0 _ _ b _ λj r hj hb=>?_
    simp only [cY]
    by_cases hjp:j=p
    ·subst hjp;rw [gr] at hj;cases hj;rw [gw] at hb;simp [keys] at hb
    ·rcases hahead j r hj hjp with ⟨h1,hm⟩ | hm
     ·rw [hm.in hD g0 hd (by omega)];simp [h1]
     ·rw [hm] at hb;simp [keys] at hb
   have hT:∀t v,look (HJ ops s.T) t=some (some v)->look (appD 0 recs D { s with nb:=s.nb+8*ops.length }).T t=some (some v):=by
    intro t v ht
    obtain ⟨h1,h2⟩:=ux ops t v ht
    rw [yK,xX _ 0 D t _ λj r hj hr=>?_]
    ·exact h2
    ·exfalso
     obtain ⟨o,ho⟩:=wF F hj
     exact h1 o (gQ ho) ((F.loc j o r ho hj).1 t hr)
   refine ⟨hI'.size,hI'.defers,λt v ht=>hI'.tmps t v (hT t v ht),⟨hI'.mem.inj,λb r hb=>?_,hI'.mem.dom,λb blk hl hdd=>hI'.mem.blk b blk ?_ hdd⟩,?_,hI'.new,?_,λb r hb=>?_,?_,?_⟩
   ·have:=hI'.mem.low b r hb
    have e:=g3.nb.trans ebase.nb
    rw [lg] at e
    show b<sf.nb
    rw [e];exact this
   ·show look (wr++(appD 0 recs D { s with nb:=s.nb+8*ops.length }).H) b=_
    rw [pC,<-hH b,<-pC];exact hl
   ·have e:=g3.rb.trans ebase.rb
    rw [vO] at e
    have h1:=hI'.ext
    show ∀b q,ι0 b=some q->ι' b=some q\/sf.rb<=b
    rw [e]
    simp only [St.app,vO] at h1
    exact h1
   ·have e:=g3.ro.trans ebase.ro
    rw [iU] at e
    have h1:=hI'.fr
    show Fr (roI ι0 sf.ro) w0.w w'
    rw [e]
    simp only [St.app,iU] at h1
    exact h1
   ·have e:=g3.lo.trans ebase.lo
    rw [wc] at e
    have h1:=hI'.low b r hb
    show b<sf.lo
    rw [e]
    simp only [St.app,wc] at h1
    exact h1
   ·have e:=g3.ro.trans ebase.ro
    rw [iU] at e
    have h1:=hI'.fz
    show ∀b q,ι' b=some (some q)->q.fz=true->b<sf.ro
    rw [e]
    simp only [St.app,iU] at h1
    exact h1
   ·have e:=g3.ro.trans ebase.ro
    rw [iU] at e
    have h1:=hI'.gl
    show GL (roI ι0 sf.ro) w0.w
    rw [e]
    simp only [St.app,iU] at h1
    exact h1
  case fresh=>exact hI.fresh b (by omega)
  case len=>
   have:=Aa (λi=>!Dn (Array.replicate ops.toArray.size false) i) (List.range ops.length)
   simpa using this
end Go.Abs
