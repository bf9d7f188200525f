
/- A region that draws its order: where what is unordered does not meet, every order comes to what the order of the text comes to.
   Conditions: none; generic over the program. -/
import Derived.Test.YtaogbalpingjhaaGreatDoorAbsM
set_option linter.unusedSimpArgs false
set_option linter.unusedVariables false
namespace Go.Abs
variable {P:Program}
structure Rec where
 dst:Option Nat
 val:Option V
 wr:List (Nat×Blk)
 rd:List Nat
def St.put (s:St) (r:Rec):St:=s.app r.dst r.val r.wr s.nb
def keys (wr:List (Nat×Blk)):List Nat:=wr.map (·.1)
theorem kD {α:Type} (l m:List (Nat×α)) (n:Nat):look (l++m) n=(look l n).or (look m n):=by
 induction l with
 | nil=>rfl
 | cons x l ih=>
  obtain ⟨k,v⟩:=x;rw [jr,aF,aF];split
  ·rfl
  ·exact ih
theorem lH {α:Type} {l:List (Nat×α)} {n:Nat} (h:n∉l.map (·.1)):look l n=none:=by
 induction l with
 | nil=>rfl
 | cons x l ih=>
  obtain ⟨k,v⟩:=x;simp only [fU,cY,not_or] at h;rw [aF,ab (λe=>h.1 e.symm)];exact ih h.2
theorem md {α:Type} {l:List (Nat×α)} {n:Nat} (h:n∈l.map (·.1)):∃v,look l n=some v:=by
 induction l with
 | nil=>simp at h
 | cons x l ih=>
  obtain ⟨k,v⟩:=x;rw [aF];split
  ·exact ⟨v,rfl⟩
  ·rename_i a;simp only [fU,cY] at h;exact ih (h.resolve_left λe=>a e.symm)
theorem Fg (s:St) (r:Rec) (t:Nat):look (s.put r).T t=if r.dst=some t then some r.val else look s.T t:=by
 unfold St.put St.app;cases a:r.dst with
 | none=>simp
 | some d=>
  simp only [aF];by_cases h:d=t
  ·subst h;simp
  ·simp [h]
theorem EB (s:St) (r:Rec) (b:Nat):look (s.put r).H b=(look r.wr b).or (look s.H b):=kD _ _ _
theorem Iu (s:St) (r:Rec):(s.put r).nb=s.nb:=rfl
structure Eqv (s s':St):Prop where
 T:∀t,look s.T t=look s'.T t
 H:∀b,look s.H b=look s'.H b
 nb:s.nb=s'.nb
 lo:s.lo=s'.lo
 ro:s.ro=s'.ro
 rb:s.rb=s'.rb
theorem Eqv.refl (s:St):Eqv s s:=⟨λ_=>rfl,λ_=>rfl,rfl,rfl,rfl,rfl⟩
theorem Eqv.symm {s A:St} (h:Eqv s A):Eqv A s:=⟨λt=>(h.T t).symm,λb=>(h.H b).symm,h.nb.symm,h.lo.symm,h.ro.symm,h.rb.symm⟩
theorem Eqv.trans {a b c:St} (h:Eqv a b) (k:Eqv b c):Eqv a c:=⟨λt=>(h.T t).trans (k.T t),λt=>(h.H t).trans (k.H t),h.nb.trans k.nb,h.lo.trans k.lo,h.ro.trans k.ro,h.rb.trans k.rb⟩
theorem Eqv.put {s A:St} (h:Eqv s A) (r:Rec):Eqv (s.put r) (A.put r):=
 ⟨λt=>by rw [Fg,Fg,h.T],λb=>by rw [EB,EB,h.H],h.nb,h.lo,h.ro,h.rb⟩
theorem Eqv.puts:∀(l:List Rec) {s A:St},Eqv s A->Eqv (l.foldl St.put s) (l.foldl St.put A)
 | [],_,_,h=>h
 | r::l,_,_,h=>Eqv.puts l (h.put r)
theorem Inv.eqv {n:Nat} {ι0 ι:Inj} {w0:Base} {s C:St} {a:Act} {w:World} (h:Inv n ι0 w0 ι s a w) (e:Eqv s C):Inv n ι0 w0 ι C a w:=
 ⟨h.size,h.defers,λt v E=>h.tmps t v (by rw [e.T];exact E),⟨h.mem.inj,λb r A=>by rw [<-e.nb];exact h.mem.low b r A,h.mem.dom,λb blk F G=>h.mem.blk b blk (by rw [e.H];exact F) G⟩,by rw [<-e.rb];exact h.ext,h.new,by rw [<-e.ro];exact h.fr,λb r A=>by rw [<-e.lo];exact h.low b r A,by rw [<-e.ro];exact h.fz,by rw [<-e.ro];exact h.gl⟩
def appD:Nat->List Rec->(Nat->Bool)->St->St
 | _,[],_,s=>s
 | i,r::l,D,s=>appD (i+1) l D (if D i=true then s.put r else s)
def rc:Nat->List Rec->(Nat->Bool)->Nat->Option (Option V)->Option (Option V)
 | _,[],_,_,x=>x
 | i,r::l,D,t,x=>rc (i+1) l D t (if D i=true/\r.dst=some t then some r.val else x)
def rB:Nat->List Rec->(Nat->Bool)->Nat->Option Blk->Option Blk
 | _,[],_,_,x=>x
 | i,r::l,D,b,x=>rB (i+1) l D b (if D i=true then (look r.wr b).or x else x)
theorem sN:∀(l:List Rec) (i:Nat) (D:Nat->Bool) (s:St) (t:Nat),look (appD i l D s).T t=rc i l D t (look s.T t)
 | [],_,_,_,_=>rfl
 | r::l,i,D,s,t=>by
  simp only [appD,rc,sN l];congr 1;cases D i
  ·simp
  ·simp only [kT,aY];rw [Fg]
theorem rt:∀(l:List Rec) (i:Nat) (D:Nat->Bool) (s:St) (b:Nat),look (appD i l D s).H b=rB i l D b (look s.H b)
 | [],_,_,_,_=>rfl
 | r::l,i,D,s,b=>by
  simp only [appD,rB,rt l];congr 1;cases D i
  ·simp
  ·simp only [aY];rw [EB]
theorem gO:∀(l:List Rec) (i:Nat) (D:Nat->Bool) (s:St),(appD i l D s).nb=s.nb
 | [],_,_,_=>rfl
 | r::l,i,D,s=>by
  simp only [appD,gO l];split<;>rfl
theorem eI:∀(l:List Rec) (i:Nat) (D:Nat->Bool) (s:St),(appD i l D s).ro=s.ro
 | [],_,_,_=>rfl
 | r::l,i,D,s=>by
  simp only [appD,eI l];split<;>rfl
theorem rM:∀(l:List Rec) (i:Nat) (D:Nat->Bool) (s:St),(appD i l D s).lo=s.lo
 | [],_,_,_=>rfl
 | r::l,i,D,s=>by
  simp only [appD,rM l];split<;>rfl
theorem rW:∀(l:List Rec) (i:Nat) (D:Nat->Bool) (s:St),(appD i l D s).rb=s.rb
 | [],_,_,_=>rfl
 | r::l,i,D,s=>by
  simp only [appD,rW l];split<;>rfl
theorem m7:∀(l:List Rec) (i:Nat) (D a:Nat->Bool) (t:Nat) (x:Option (Option V)),(∀j r,l[j]?=some r->r.dst=some t->D (i+j)=a (i+j))->rc i l D t x=rc i l a t x
 | [],_,_,_,_,_,_=>rfl
 | r::l,i,D,a,t,x,h=>by
  simp only [rc];have b:=h 0 r (by simp);simp only [dG] at b;rw [m7 l (i+1) D a t _ λj e f d=>by have:=h (j+1) e (by simpa using f) d;rwa [show i+(j+1)=i+1+j by omega] at this];congr 1;by_cases c:r.dst=some t
  ·rw [b c]
  ·simp [c]
theorem sw (l:List Rec) (i:Nat) (D:Nat->Bool) (t:Nat) (x:Option (Option V)) (h:∀j r,l[j]?=some r->r.dst=some t->D (i+j)=false):rc i l D t x=x:=by
 induction l generalizing i x with
 | nil=>rfl
 | cons r l ih=>
  simp only [rc];have b:=h 0 r (by simp);simp only [dG] at b;have:¬(D i=true/\r.dst=some t):=λ⟨a,d⟩=>by rw [b d] at a;cases a
  rw [ab this];exact ih (i+1) x λj e f c=>by have:=h (j+1) e (by simpa using f) c;rwa [show i+(j+1)=i+1+j by omega] at this
theorem zn:∀(l:List Rec) (i j:Nat) (D:Nat->Bool) (t:Nat) (x:Option (Option V)) (r:Rec),l[j]?=some r->D (i+j)=true->r.dst=some t->
  (∀k b,j<k->l[k]?=some b->b.dst=some t->D (i+k)=false)->rc i l D t x=some r.val
 | [],_,_,_,_,_,_,h,_,_,_=>by simp at h
 | r0::l,i,0,D,t,x,r,h,d,e,a=>by
  simp only [il,ae] at h;subst h;simp only [dG] at d;simp only [rc];rw [ad ⟨d,e⟩];exact sw l (i+1) D t _ λk b f c=>by have:=a (k+1) b (by omega) (by simpa using f) c;rwa [show i+(k+1)=i+1+k by omega] at this
 | r0::l,i,j+1,D,t,x,r,h,d,e,a=>by
  simp only [rc]
  exact zn l (i+1) j D t _ r (by simpa using h) (by rwa [show i+1+j=i+(j+1) by omega]) e λk b f g c=>by
   have:=a (k+1) b (by omega) (by simpa using g) c;rwa [show i+(k+1)=i+1+k by omega] at this
theorem kY:∀(l:List Rec) (i:Nat) (D a:Nat->Bool) (b:Nat) (x:Option Blk),(∀j r,l[j]?=some r->b∈keys r.wr->D (i+j)=a (i+j))->rB i l D b x=rB i l a b x
 | [],_,_,_,_,_,_=>rfl
 | r::l,i,D,a,b,x,h=>by
  simp only [rB];have c:=h 0 r (by simp);simp only [dG] at c;rw [kY l (i+1) D a b _ λj f g e=>by have:=h (j+1) f (by simpa using g) e;rwa [show i+(j+1)=i+1+j by omega] at this];congr 1;by_cases d:b∈keys r.wr
  ·rw [c d]
  ·simp [lH d]
theorem zP (l:List Rec) (i:Nat) (D:Nat->Bool) (b:Nat) (x:Option Blk) (h:∀j r,l[j]?=some r->b∈keys r.wr->D (i+j)=false):rB i l D b x=x:=by
 induction l generalizing i x with
 | nil=>rfl
 | cons r l ih=>
  simp only [rB];have a:=h 0 r (by simp);simp only [dG] at a;have:(if D i=true then (look r.wr b).or x else x)=x:=by
   by_cases c:b∈keys r.wr
   ·rw [a c];simp
   ·rw [lH c];simp
  rw [this];exact ih (i+1) x λj e f d=>by have:=h (j+1) e (by simpa using f) d;rwa [show i+(j+1)=i+1+j by omega] at this
theorem yH:∀(l:List Rec) (i j:Nat) (D:Nat->Bool) (b:Nat) (x:Option Blk) (r:Rec),l[j]?=some r->D (i+j)=true->b∈keys r.wr->
  (∀k c,j<k->l[k]?=some c->b∈keys c.wr->D (i+k)=false)->rB i l D b x=look r.wr b
 | [],_,_,_,_,_,_,h,_,_,_=>by simp at h
 | r0::l,i,0,D,b,x,r,h,e,f,a=>by
  simp only [il,ae] at h;subst h;simp only [dG] at e;simp only [rB];obtain ⟨v,m⟩:=md f;rw [ad e,m];exact zP l (i+1) D b _ λk c g d=>by have:=a (k+1) c (by omega) (by simpa using g) d;rwa [show i+(k+1)=i+1+k by omega] at this
 | r0::l,i,j+1,D,b,x,r,h,e,f,a=>by
  simp only [rB]
  exact yH l (i+1) j D b _ r (by simpa using h) (by rwa [show i+1+j=i+(j+1) by omega]) f λk c g n d=>by
   have:=a (k+1) c (by omega) (by simpa using n) d;rwa [show i+(k+1)=i+1+k by omega] at this
theorem lC:∀(l:List Rec) (i j:Nat) (s:St),Eqv ((l.take j).foldl St.put s) (appD i l (λm=>decide (m<i+j)) s)
 | [],i,j,s=>by simp [appD];exact Eqv.refl s
 | r::l,i,0,s=>by
  have:∀(l:List Rec) (i a:Nat) (s:St),i<=a->appD a l (λm=>decide (m<i)) s=s:=by
   intro l
   induction l with
   | nil=>intros;rfl
   | cons r l ih=>intro i a s h;simp only [appD,show ¬a<i by omega,kP,bT,aE];exact ih i (a+1) s (by omega)
  simp only [jR,ye,dG];rw [this (r::l) i i s (aL _)];exact Eqv.refl s
 | r::l,i,j+1,s=>by
  simp only [lz,pd,appD,show i<i+(j+1) by omega,kA,aY];have:=lC l (i+1) j (s.put r);rwa [show (λm=>decide (m<i+1+j))=λm=>decide (m<i+(j+1)) by funext m;simp only [oL];omega] at this
theorem tt:∀(l:List Rec) (i:Nat) (D:Nat->Bool) (s:St),(∀j,j<l.length->D (i+j)=true)->appD i l D s=l.foldl St.put s
 | [],_,_,_,_=>rfl
 | r::l,i,D,s,h=>by
  have a:=h 0 (by simp);simp only [dG] at a;simp only [appD,a,aY,pd];exact tt l (i+1) D _ λj b=>by have:=h (j+1) (by simpa using b);rwa [show i+(j+1)=i+1+j by omega] at this
def o6 (P:Program) (n nb0:Nat) (ops:List Oper) (i:Nat) (o:Oper) (r:Rec) (base:St):Prop:=
 ∀c:St,(∀t∈o.looksAt ops.toArray,look c.T t=look base.T t)->(∀b∈r.rd,look c.H b=look base.H b)->c.nb=base.nb->c.ro=base.ro->
  ∀(ι0:Inj) (w0:Base) (ι:Inj) (a:Act) (w:World),Inv n ι0 w0 ι c a w->(∀b,nb0+8*i<=b->b<nb0+8*i+8->ι b=none)->∀(K:Act->World->Prop) (Q:Exit->Act->World->Prop),
   (∀d e w',(∀b,(b<nb0+8*i\/nb0+8*i+8<=b)->d b=ι b)->Inv n ι0 w0 d (c.put r) e w'->K e w')->
   if Region.wanted o (yielded ops.toArray a.tmps) then o.wp P a w K Q else K (a.put o.dst undef) w
def sV (P:Program) (n nb0:Nat) (ops:List Oper) (i:Nat) (o:Oper) (v:V) (wr:List (Nat×Blk)) (rd:List Nat) (base:St):Prop:=
 ∀c:St,(∀t∈o.looksAt ops.toArray,look c.T t=look base.T t)->(∀b∈rd,look c.H b=look base.H b)->c.nb=base.nb->c.ro=base.ro->
  ∀(ι0:Inj) (w0:Base) (ι:Inj) (a:Act) (w:World),Inv n ι0 w0 ι c a w->(∀b,nb0+8*i<=b->b<nb0+8*i+8->ι b=none)->∀(K:Act->World->Prop) (Q:Exit->Act->World->Prop),
   (∀d x w',VR d v x->Inv n ι0 w0 d (c.app none none wr c.nb) a w'->Q (.panic [{ v:=x,recovered:=false }]) a w')->
   Region.wanted o (yielded ops.toArray a.tmps)=true/\o.wp P a w K Q
theorem sV.eqv {n nb0:Nat} {ops:List Oper} {i:Nat} {o:Oper} {v:V} {wr:List (Nat×Blk)} {rd:List Nat} {base A:St} (h:sV P n nb0 ops i o v wr rd base) (e:Eqv base A):sV P n nb0 ops i o v wr rd A:=
 λE F K C J=>h E (λt M=>by rw [F t M,e.T]) (λb G=>by rw [K b G,e.H]) (by rw [C,e.nb]) (by rw [J,e.ro])
theorem o6.eqv {n nb0:Nat} {ops:List Oper} {i:Nat} {o:Oper} {r:Rec} {base A:St} (h:o6 P n nb0 ops i o r base) (e:Eqv base A):o6 P n nb0 ops i o r A:=
 λE F K C J=>h E (λt M=>by rw [F t M,e.T]) (λb G=>by rw [K b G,e.H]) (by rw [C,e.nb]) (by rw [J,e.ro])
theorem sY {α:Type} {ops:List Oper} {o:Oper} {s:St} {k:Bool->St->Option α} {z:α} (h:qT ops o s k=some z):
  ∃c B,k c B=some z/\Eqv B s/\∀q:St,(∀t∈o.looksAt ops.toArray,look q.T t=look s.T t)->∀(n:Nat) (ι0 ι:Inj) (w0:Base) (a:Act) (w:World),Inv n ι0 w0 ι q a w->
   Region.wanted o (yielded ops.toArray a.tmps)=c:=by
 unfold qT at h;split at h
 ·rename_i p;exact ⟨true,s,h,Eqv.refl s,λ_ _ _ _ _ _ _ _ _=>by simp [Region.wanted,p]⟩
 ·rename_i j c p;split at h
  case h_2=>cases h
  rename_i d m;have f:d∈o.looksAt ops.toArray:=by
   unfold Oper.looksAt;unfold gtmp at m;split at m
   ·rename_i D A;simp [p,A,m]
   ·cases m
  have again:∀x,look s.T d=some (some (.b x))->Eqv { s with T:=(d,some (V.b x))::s.T } s:=by
   intro x l;refine ⟨λt=>?_,λ_=>rfl,rfl,rfl,rfl,rfl⟩;show look ((d,some (V.b x))::s.T) t=look s.T t;rw [aF];split
   ·rename_i e;subst e;exact l.symm
   ·rfl
  split at h
  ·rename_i x l;cases x
   ·refine ⟨!c,_,h,again _ l,λq u n ι0 ι w0 a w v=>?_⟩;obtain ⟨y,r,i⟩:=v.tmps d _ (by rw [u d f];exact l);simp only [VR] at i;subst i;have g:=l9 m a.tmps;rw [r] at g;cases c<;>simp [Region.wanted,p,g]
   ·refine ⟨c,_,h,again _ l,λq u n ι0 ι w0 a w v=>?_⟩;obtain ⟨y,r,i⟩:=v.tmps d _ (by rw [u d f];exact l);simp only [VR] at i;subst i;have g:=l9 m a.tmps;rw [r] at g;cases c<;>simp [Region.wanted,p,g]
  ·rename_i l;refine ⟨false,s,h,Eqv.refl s,λq u n ι0 ι w0 a w v=>?_⟩;obtain ⟨y,r,i⟩:=v.tmps d _ (by rw [u d f];exact l);simp only [VR] at i;obtain ⟨C,rfl,_⟩:=i;have g:=l9 m a.tmps;rw [r] at g;simp [Region.wanted,p,g]
  ·cases h
theorem qt {ops:Array Oper} {o:Oper} {s a:St} (h:∀t∈o.looksAt ops,look a.T t=look s.T t):∀x∈o.op.operands.toList,opd a.T x=opd s.T x:=by
 intro x b;cases x with
 | tmp t=>
  have:=h t (by
   unfold Oper.looksAt;simp only [mN,List.mem_filterMap];exact .inl ⟨.tmp t,b,rfl⟩)
  simp only [opd,this]
 | _=>rfl
theorem AU {α:Type} {E:List Ent} (hE:∀x∈E,cD P x) {n nb0:Nat} {ops:List Oper} {masks:List Nat} {p:Nat} {k:List TE->Option α} {z:α}:∀(l:List Oper) (i:Nat) (s:St) (tr:List TE),
  nb0+8*(i+l.length)<=s.nb->runB P E n nb0 ops masks p i l s tr k=some z->
  ∃(recs:List Rec) (trf:List TE),recs.length=l.length/\k trf=some z/\(∀x∈tr,x∈trf)/\
   (∀j r,recs[j]?=some r->(⟨i+j,r.rd,keys r.wr⟩:TE)∈trf\/(r.rd=[]/\r.wr=[]))/\
   ∀(j:Nat) (o:Oper) (r:Rec),l[j]?=some o->recs[j]?=some r->r.dst=o.dst/\((getN masks (i+j)).testBit p=false->o6 P n nb0 ops (i+j) o r ((recs.take j).foldl St.put s))
 | [],i,s,tr,I,h=>⟨[],tr,rfl,h,λ_ h=>h,λj r h=>by simp at h,λj o r h=>by simp at h⟩
 | o::l,i,s,tr,I,h=>by
  simp only [ci] at I;simp only [runB] at h;have more:∀(e:Rec) (d:List TE) (D:St),e.dst=o.dst->((getN masks i).testBit p=false->o6 P n nb0 ops i o e s)->Eqv D (s.put e)->s.nb<=D.nb->(∀x∈tr,x∈d)->((⟨i,e.rd,keys e.wr⟩:TE)∈d\/(e.rd=[]/\e.wr=[]))->
    runB P E n nb0 ops masks p (i+1) l D d k=some z->∃(recs:List Rec) (trf:List TE),recs.length=(o::l).length/\k trf=some z/\(∀x∈tr,x∈trf)/\
   (∀j r,recs[j]?=some r->(⟨i+j,r.rd,keys r.wr⟩:TE)∈trf\/(r.rd=[]/\r.wr=[]))/\
   ∀(j:Nat) (C:Oper) (r:Rec),(o::l)[j]?=some C->recs[j]?=some r->r.dst=C.dst/\((getN masks (i+j)).testBit p=false->o6 P n nb0 ops (i+j) C r ((recs.take j).foldl St.put s)):=by
   intro e d D N hl e2 hnb2 O V h;obtain ⟨recs,trf,g1,g2,Z,g5,g6⟩:=AU hE l (i+1) D d (by omega) h;refine ⟨e::recs,trf,by simp [g1],g2,λx S=>Z x (O x S),λj r m=>?_,λj C r U m=>?_⟩
   ·cases j with
    | zero=>simp only [il,ae] at m;subst m;exact V.imp (Z _) id
    | succ j=>have:=g5 j r (by simpa using m);rwa [show i+1+j=i+(j+1) by omega] at this
   ·cases j with
    | zero=>
     simp only [il,ae] at U m;subst U m;exact ⟨N,hl⟩
    | succ j=>
     obtain ⟨p1,p2⟩:=g6 j C r (by simpa using U) (by simpa using m);rw [show i+1+j=i+(j+1) by omega] at p2;exact ⟨p1,λq=>(p2 q).eqv (by simpa using Eqv.puts (recs.take j) e2)⟩
  split at h
  ·rename_i G;exact more ⟨o.dst,none,[],[]⟩ tr (s.app o.dst none [] s.nb) rfl (λq=>by rw [G] at q;cases q) (Eqv.refl _) (aL _) (λ_ h=>h) (.inr ⟨rfl,rfl⟩) h
  obtain ⟨A,B,h,u,X⟩:=sY h;have c:B.nb=s.nb:=u.nb;cases A
  ·simp only at h;split at h
   case h_2=>cases h
   rename_i N;refine more ⟨o.dst,some (.tp []),[],[]⟩ tr (B.app o.dst (some (.tp [])) [] B.nb) rfl (λ_ L J q2 Y q4 ι0 w0 ι a w F y K Q M=>?_) (u.put ⟨o.dst,some (.tp []),[],[]⟩) (qj c.symm) (λ_ h=>h) (.inr ⟨rfl,rfl⟩) h;rw [X L J n ι0 ι w0 a w F];simp only [bT,aE];exact M ι _ _ (λ_ _=>rfl) (F.skip N)
  ·simp only at h;rcases ve hE (by omega) h with ⟨val,wr,rd,g,R,f⟩ | ⟨v,wr,rd,R,f⟩
   ·refine more ⟨o.dst,val,wr,rd⟩ (⟨i,rd,keys wr⟩::tr) (B.app o.dst val wr B.nb) rfl (λ_ L J q2 Y q4 ι0 w0 ι a w F y K Q M=>?_) (u.put ⟨o.dst,val,wr,rd⟩) (qj c.symm) (λx S=>iL _ S) (.inl (by simp [keys])) R;rw [X L J n ι0 ι w0 a w F];simp only [aY];refine f L (qt λt ht=>by rw [J t ht,u.T]) (λb q=>by rw [q2 b q,u.H]) (by rw [Y,c]) (by rw [q4,u.ro]) ι0 w0 ι a w F (by simpa using y) K Q λW a' w' z1 z2=>M W a' w' (by simpa using z1) z2
   ·cases R
theorem uF {α:Type} {E:List Ent} (hE:∀x∈E,cD P x) {n nb0:Nat} {ops:List Oper} {masks:List Nat} {k:St->List TE->Option α} {kp:Nat->V->St->List TE->Option α} {z:α}:∀(l:List Oper) (i:Nat) (s:St) (tr:List TE),
  nb0+8*(i+l.length)<=s.nb->runD P E n nb0 ops masks kp i l s tr k=some z->
  (∃(recs:List Rec) (d:St) (trf:List TE),recs.length=l.length/\k d trf=some z/\Eqv d (recs.foldl St.put s)/\(∀x∈tr,x∈trf)/\
   (∀j r,recs[j]?=some r->(⟨i+j,r.rd,keys r.wr⟩:TE)∈trf\/(r.rd=[]/\r.wr=[]))/\
   ∀(j:Nat) (o:Oper) (r:Rec),l[j]?=some o->recs[j]?=some r->r.dst=o.dst/\o6 P n nb0 ops (i+j) o r ((recs.take j).foldl St.put s))\/
  (∃(p:Nat) (op:Oper) (recs:List Rec) (d:St) (M:St) (trf:List TE) (v:V) (wr:List (Nat×Blk)) (m:Rec),recs.length=l.length/\l[p]?=some op/\recs[p]?=some m/\m.dst=op.dst/\m.wr=[]/\M=d.app none none wr d.nb/\kp (i+p) v M trf=some z/\Eqv d ((recs.take p).foldl St.put s)/\(∀x∈tr,x∈trf)/\
   sV P n nb0 ops (i+p) op v wr m.rd ((recs.take p).foldl St.put s)/\
   (∀j r,recs[j]?=some r->j≠p->(⟨i+j,r.rd,keys r.wr⟩:TE)∈trf\/(r.rd=[]/\r.wr=[]))/\
   ∀(j:Nat) (o:Oper) (r:Rec),l[j]?=some o->recs[j]?=some r->r.dst=o.dst/\((j<p\/(p<j/\(getN masks (i+j)).testBit (i+p)=false))->o6 P n nb0 ops (i+j) o r ((recs.take j).foldl St.put s)))
 | [],i,s,tr,hnb,h=>.inl ⟨[],s,tr,rfl,h,Eqv.refl s,λ_ h=>h,λj r h=>by simp at h,λj o r h=>by simp at h⟩
 | o::l,i,s,tr,hnb,h=>by
  simp only [ci] at hnb;simp only [runD] at h;obtain ⟨want,G,h,A,hw⟩:=sY h;have e:G.nb=s.nb:=A.nb;have more:∀(B:Rec) (y:List TE) (s2:St),B.dst=o.dst->o6 P n nb0 ops i o B s->Eqv s2 (s.put B)->s.nb<=s2.nb->(∀x∈tr,x∈y)->((⟨i,B.rd,keys B.wr⟩:TE)∈y\/(B.rd=[]/\B.wr=[]))->
    runD P E n nb0 ops masks kp (i+1) l s2 y k=some z->
    (∃(recs:List Rec) (d:St) (trf:List TE),recs.length=(o::l).length/\k d trf=some z/\Eqv d (recs.foldl St.put s)/\(∀x∈tr,x∈trf)/\
   (∀j r,recs[j]?=some r->(⟨i+j,r.rd,keys r.wr⟩:TE)∈trf\/(r.rd=[]/\r.wr=[]))/\
   ∀(j:Nat) (f:Oper) (r:Rec),(o::l)[j]?=some f->recs[j]?=some r->r.dst=f.dst/\o6 P n nb0 ops (i+j) f r ((recs.take j).foldl St.put s))\/
    (∃(p:Nat) (op:Oper) (recs:List Rec) (d:St) (M:St) (trf:List TE) (v:V) (wr:List (Nat×Blk)) (m:Rec),recs.length=(o::l).length/\(o::l)[p]?=some op/\recs[p]?=some m/\m.dst=op.dst/\m.wr=[]/\M=d.app none none wr d.nb/\kp (i+p) v M trf=some z/\Eqv d ((recs.take p).foldl St.put s)/\(∀x∈tr,x∈trf)/\
   sV P n nb0 ops (i+p) op v wr m.rd ((recs.take p).foldl St.put s)/\
   (∀j r,recs[j]?=some r->j≠p->(⟨i+j,r.rd,keys r.wr⟩:TE)∈trf\/(r.rd=[]/\r.wr=[]))/\
   ∀(j:Nat) (f:Oper) (r:Rec),(o::l)[j]?=some f->recs[j]?=some r->r.dst=f.dst/\((j<p\/(p<j/\(getN masks (i+j)).testBit (i+p)=false))->o6 P n nb0 ops (i+j) f r ((recs.take j).foldl St.put s))):=by
   intro B y s2 hd hl L hnb2 Y hte h;rcases uF hE l (i+1) s2 y (by omega) h with ⟨recs,d,trf,W,O,g3,J,Z,g6⟩ | ⟨p,op,recs,d,M,trf,v,wr,m,W,g0,gr,gd,gw,gs,O,g3,J,g7,Z,g6⟩
   ·refine .inl ⟨B::recs,d,trf,by simp [W],O,g3.trans (Eqv.puts recs L),λx hx=>J x (Y x hx),λj r c=>?_,λj f r u c=>?_⟩
    ·cases j with
     | zero=>simp only [il,ae] at c;subst c;exact hte.imp (J _) id
     | succ j=>have:=Z j r (by simpa using c);rwa [show i+1+j=i+(j+1) by omega] at this
    ·cases j with
     | zero=>
      simp only [il,ae] at u c;subst u c;exact ⟨hd,hl⟩
     | succ j=>
      obtain ⟨U,D⟩:=g6 j f r (by simpa using u) (by simpa using c);rw [show i+1+j=i+(j+1) by omega] at D;exact ⟨U,D.eqv (by simpa using Eqv.puts (recs.take j) L)⟩
   ·rw [show i+1+p=i+(p+1) by omega] at O g7;refine .inr ⟨p+1,op,B::recs,d,M,trf,v,wr,m,by simp [W],by simpa using g0,by simpa using gr,gd,gw,gs,O,g3.trans (by simpa using Eqv.puts (recs.take p) L),λx hx=>J x (Y x hx),g7.eqv (by simpa using Eqv.puts (recs.take p) L),λj r c hjp=>?_,λj f r u c=>?_⟩
    ·cases j with
     | zero=>simp only [il,ae] at c;subst c;exact hte.imp (J _) id
     | succ j=>have:=Z j r (by simpa using c) (by omega);rwa [show i+1+j=i+(j+1) by omega] at this
    ·cases j with
     | zero=>
      simp only [il,ae] at u c;subst u c;exact ⟨hd,λ_=>hl⟩
     | succ j=>
      obtain ⟨U,D⟩:=g6 j f r (by simpa using u) (by simpa using c);rw [show i+1+j=i+(j+1) by omega,show i+1+p=i+(p+1) by omega] at D;exact ⟨U,λhc=>(D (hc.imp (λh=>by omega) λh=>⟨by omega,h.2⟩)).eqv (by simpa using Eqv.puts (recs.take j) L)⟩
  cases want
  ·simp only at h;split at h
   case h_2=>cases h
   rename_i hd;refine more ⟨o.dst,some (.tp []),[],[]⟩ tr (G.app o.dst (some (.tp [])) [] G.nb) rfl (λN F q2 S X ι0 w0 ι a w I C K Q R=>?_) (A.put ⟨o.dst,some (.tp []),[],[]⟩) (qj e.symm) (λ_ h=>h) (.inr ⟨rfl,rfl⟩) h;rw [hw N F n ι0 ι w0 a w I];simp only [bT,aE];exact R ι _ _ (λ_ _=>rfl) (I.skip hd)
  ·simp only at h;rcases ve hE (by omega) h with ⟨val,wr,rd,g,hk,q⟩ | ⟨v,wr,rd,hk,q⟩
   ·refine more ⟨o.dst,val,wr,rd⟩ (⟨i,rd,keys wr⟩::tr) (G.app o.dst val wr G.nb) rfl (λN F q2 S X ι0 w0 ι a w I C K Q R=>?_) (A.put ⟨o.dst,val,wr,rd⟩) (qj e.symm) (λx hx=>iL _ hx) (.inl (by simp [keys])) hk;rw [hw N F n ι0 ι w0 a w I];simp only [aY];refine q N (qt λt ht=>by rw [F t ht,A.T]) (λb hb=>by rw [q2 b hb,A.H]) (by rw [S,e]) (by rw [X,A.ro]) ι0 w0 ι a w I (by simpa using C) K Q λι' a' w' z1 z2=>R ι' a' w' (by simpa using z1) z2
   ·obtain ⟨recs,trf,W,O,J,Z,g6⟩:=AU hE l (i+1) _ tr (by simp only [St.app];omega) hk;have L:Eqv (G.app o.dst none [] G.nb) (s.put ⟨o.dst,none,[],rd⟩):=A.put ⟨o.dst,none,[],rd⟩;refine .inr ⟨0,o,⟨o.dst,none,[],rd⟩::recs,G,_,trf,v,wr,⟨o.dst,none,[],rd⟩,by simp [W],rfl,rfl,rfl,rfl,rfl,O,A,J,λN F q2 S X ι0 w0 ι a w I C K Q R=>?_,λj r c hjp=>?_,λj f r u c=>?_⟩
    ·simp only [jR,ye] at F q2 S X;exact ⟨hw N F n ι0 ι w0 a w I,q N (qt λt ht=>by rw [F t ht,A.T]) (λb hb=>by rw [q2 b hb,A.H]) (by rw [S,e]) (by rw [X,A.ro]) ι0 w0 ι a w I (by simpa using C) K Q R⟩
    ·cases j with
     | zero=>exact absurd rfl hjp
     | succ j=>have:=Z j r (by simpa using c);rwa [show i+1+j=i+(j+1) by omega] at this
    ·cases j with
     | zero=>
      simp only [il,ae] at u c;subst u c;exact ⟨rfl,λh=>by omega⟩
     | succ j=>
      obtain ⟨U,D⟩:=g6 j f r (by simpa using u) (by simpa using c);rw [show i+1+j=i+(j+1) by omega] at D;refine ⟨U,λhc=>(D ?_).eqv (by simpa using Eqv.puts (recs.take j) L)⟩;rcases hc with hc | hc
      ·omega
      ·exact hc.2
def Down (ops:List Oper) (D:Nat->Bool):Prop:=∀j o e,ops[j]?=some o->D j=true->e∈o.after.toList->Region.binds .any e=true->D e.on=true
def Must (ops:List Oper) (i j:Nat):Prop:=∀D,Down ops D->D j=true->D i=true
def Dn (a:Array Bool):Nat->Bool:=λi=>a.getD i false
structure DrawFacts (P:Program) (n nb0:Nat) (ops:List Oper) (recs:List Rec) (s0:St) (live:Nat->Prop):Prop where
 len:recs.length=ops.length
 nb:s0.nb=nb0+8*ops.length
 loc:∀(j:Nat) (o:Oper) (r:Rec),ops[j]?=some o->recs[j]?=some r->(∀t,r.dst=some t->o.dst=some t)/\(live j->o6 P n nb0 ops j o r (appD 0 recs (λm=>decide (m<j)) s0))
 down:∀(j:Nat) (o:Oper) (e:Edge),ops[j]?=some o->e∈o.after.toList->Region.binds .any e=true->e.on<j
 apart:∀(i j:Nat) (x y:Oper),i<j->ops[i]?=some x->ops[j]?=some y->Must ops i j\/x.apart ops.toArray y=true
 blk:∀(i j:Nat) (x y:Rec),i<j->recs[i]?=some x->recs[j]?=some y->Must ops i j\/((∀b∈keys x.wr,b∉y.rd/\b∉keys y.wr)/\∀b∈x.rd,b∉keys y.wr)
theorem nT {ops:List Oper} {a:Array Bool} {i:Nat} (k:a.size=ops.length) (h:i∈Region.ready .any ops.toArray a):
  ∃o,ops[i]?=some o/\i<ops.length/\Dn a i=false/\∀e∈o.after.toList,Region.binds .any e=true->Dn a e.on=true:=by
 unfold Region.ready at h;simp only [lM,jZ,av,qD] at h;obtain ⟨c,d,b⟩:=h;have f:ops[i]?=some ops[i]:=by simp [c]
 refine ⟨ops[i],f,c,?_,λe j g=>?_⟩
 ·unfold Dn;have:i<a.size:=by omega
  simp only [lB,IZ this,tL] at d ⊢;simpa using d
 ·simp only [List.getElem?_toArray,f,cK,tL] at b;have:=(Array.all_eq_true'.1 b) e (by simpa using j);simp only [g,dJ,xH] at this;exact this
theorem tA {ops:List Oper} {a:Array Bool} {i:Nat} {o:Oper} (j:a.size=ops.length) (d:ops[i]?=some o) (c:Dn a i=false)
  (h:∀e∈o.after.toList,Region.binds .any e=true->Dn a e.on=true):i∈Region.ready .any ops.toArray a:=by
 have hi:i<ops.length:=by
  rcases aA i ops.length with b | b
  ·exact b
  ·rw [dx b] at d;cases d
 unfold Region.ready;simp only [lM,jZ,av,qD];refine ⟨hi,?_,?_⟩
 ·have:i<a.size:=by omega
  unfold Dn at c;simp only [lB,IZ this,tL] at c ⊢;simp [c]
 ·simp only [List.getElem?_toArray,d,cK,tL];refine Array.all_eq_true'.2 λe g=>?_;cases f:Region.binds .any e with
  | false=>rfl
  | true=>
   have:=h e (by simpa using g) f;unfold Dn at this;simpa using this
theorem ta {a:Array Bool} {i:Nat} (h:i<a.size) (j:Nat):Dn (a.setIfInBounds i true) j=if j=i then true else Dn a j:=by
 unfold Dn;simp only [lB];rw [GX];by_cases b:i=j
 ·subst b;simp [h]
 ·simp [b,show ¬j=i from λe=>b e.symm]
theorem Down.add {ops:List Oper} {D:Nat->Bool} (h:Down ops D) {i:Nat} {o:Oper} (K:ops[i]?=some o) (M:∀e∈o.after.toList,Region.binds .any e=true->D e.on=true):
  Down ops λj=>if j=i then true else D j:=by
 intro j J e C F G E;show (if e.on=i then true else D e.on)=true;by_cases A:j=i
 ·subst A;rw [K] at C;cases C;have:=M e G E;split
  ·rfl
  ·exact this
 ·simp only [A,aE] at F;have:=h j J e C F G E;split
  ·rfl
  ·exact this
theorem Must.in {ops:List Oper} {D:Nat->Bool} (h:Down ops D) {i k:Nat} {o:Oper} (C:ops[i]?=some o) (F:∀e∈o.after.toList,Region.binds .any e=true->D e.on=true)
  (E:Must ops k i) (A:k≠i):D k=true:=by
 have:=E _ (h.add C F) (by simp);simpa [A] using this
section
variable {n nb0:Nat} {ops:List Oper} {recs:List Rec} {s0:St} {live:Nat->Prop} (F:DrawFacts P n nb0 ops recs s0 live)
include F
theorem rf {i:Nat} {o:Oper} (h:ops[i]?=some o):∃r,recs[i]?=some r:=by
 have hi:i<ops.length:=by
  rcases aA i ops.length with h' | h'
  ·exact h'
  ·rw [dx h'] at h;cases h
 exact ⟨recs[i]'(by rw [F.len];exact hi),by simp [F.len,hi]⟩
theorem qX {i:Nat} {r:Rec} (h:recs[i]?=some r):∃o,ops[i]?=some o:=by
 have hi:i<recs.length:=by
  rcases aA i recs.length with h' | h'
  ·exact h'
  ·rw [dx h'] at h;cases h
 exact ⟨ops[i]'(by rw [<-F.len];exact hi),by simp [F.len▸hi]⟩
theorem uI {D:Nat->Bool} (s:Down ops D) {i:Nat} {o:Oper} (p:ops[i]?=some o) (q:D i=false) (x:∀e∈o.after.toList,Region.binds .any e=true->D e.on=true)
  {t:Nat} (u:t∈o.looksAt ops.toArray):look (appD 0 recs D s0).T t=look (appD 0 recs (λm=>decide (m<i)) s0).T t:=by
 rw [sN,sN];refine m7 recs 0 _ _ t _ λj r v w=>?_;simp only [bM];obtain ⟨n,c⟩:=qX F v;have a:=((F.loc j n r c v).1 t w).symm;rcases wT j i with d | l | f
 ·have h:D j=true:=by
   rcases F.apart j i n o d c p with g | b
   ·exact g.in s p x (by omega)
   ·exact absurd u ((wW b).1 t a.symm)
  rw [h];simp [d]
 ·subst l;simp [q]
 ·have h:D j=false:=by
   rcases F.apart i j o n f p c with g | b
   ·cases k:D j with
    | false=>rfl
    | true=>have:=g D s k;rw [q] at this;cases this
   ·exact absurd u ((wW b).2.2 t a.symm)
  rw [h];simp;omega
theorem tH {D:Nat->Bool} (s:Down ops D) {i:Nat} {o:Oper} {r:Rec} (v:ops[i]?=some o) (n:recs[i]?=some r) (p:D i=false)
  (w:∀e∈o.after.toList,Region.binds .any e=true->D e.on=true) {b:Nat} (q:b∈r.rd):look (appD 0 recs D s0).H b=look (appD 0 recs (λm=>decide (m<i)) s0).H b:=by
 rw [rt,rt];refine kY recs 0 _ _ b _ λj t u l=>?_;simp only [bM];rcases wT j i with c | k | d
 ·have g:D j=true:=by
   rcases F.blk j i t r c u n with f | a
   ·exact f.in s v w (by omega)
   ·exact absurd q (a.1 b l).1
  rw [g];simp [c]
 ·subst k;simp [p]
 ·have g:D j=false:=by
   rcases F.blk i j r t d n u with f | a
   ·cases h:D j with
    | false=>rfl
    | true=>have:=f D s h;rw [p] at this;cases this
   ·exact absurd l (a.2 b q)
  rw [g];simp;omega
theorem tX {D:Nat->Bool} (A:Down ops D) {i:Nat} {o:Oper} {r:Rec} (C:ops[i]?=some o) (f:recs[i]?=some r) (z:D i=false):
  Eqv ((appD 0 recs D s0).put r) (appD 0 recs (λj=>if j=i then true else D j) s0):=by
 have l:=(F.loc i o r C f).1;refine ⟨λt=>?_,λb=>?_,by rw [Iu,gO,gO],by show (appD 0 recs D s0).lo=_;rw [rM,rM],by show (appD 0 recs D s0).ro=_;rw [eI,eI],by show (appD 0 recs D s0).rb=_;rw [rW,rW]⟩
 ·rw [Fg,sN,sN];by_cases n:r.dst=some t
  ·rw [ad n];symm;refine zn recs 0 i _ t _ r f (by simp) n λk m w c s=>?_;simp only [bM,show ¬k=i by omega,aE];obtain ⟨ok,h⟩:=qX F c;have x:=(F.loc k ok m h c).1;rcases F.apart i k o ok w C h with u | e
   ·cases d:D k with
    | false=>rfl
    | true=>have:=u D A d;rw [z] at this;cases this
   ·exact absurd (x t s) ((wW e).2.1 t (l t n))
  ·rw [ab n];refine m7 recs 0 _ _ t _ λj m p y=>?_;simp only [bM];by_cases a:j=i
   ·subst a;rw [f] at p;cases p;exact absurd y n
   ·simp [a]
 ·rw [EB,rt,rt];by_cases g:b∈keys r.wr
  ·obtain ⟨v,B⟩:=md g;rw [B,Option.some_or];symm;rw [<-B];refine yH recs 0 i _ b _ r f (by simp) g λk m w c q=>?_;simp only [bM,show ¬k=i by omega,aE];rcases F.blk i k r m w f c with u | e
   ·cases d:D k with
    | false=>rfl
    | true=>have:=u D A d;rw [z] at this;cases this
   ·exact absurd q (e.1 b g).2
  ·rw [lH g,wB];refine kY recs 0 _ _ b _ λj m p q=>?_;simp only [bM];by_cases a:j=i
   ·subst a;rw [f] at p;cases p;exact absurd q g
   ·simp [a]
theorem vt {kk:Nat} (B:∀j,kk<=j->j<ops.length->live j) {ι0:Inj} {w0:Base} {Q:Exit->Act->World->Prop} (T:∀ι a w,Inv n ι0 w0 ι (recs.foldl St.put s0) a w->Q .normal a w):
  ∀(fuel:Nat) (c:Array Bool) (ι:Inj) (a:Act) (w:World),c.size=ops.length->(∀j,j<kk->Dn c j=true)->Down ops (Dn c)->Inv n ι0 w0 ι (appD 0 recs (Dn c) s0) a w->
   (∀i,i<ops.length->Dn c i=false->∀b,nb0+8*i<=b->b<nb0+8*i+8->ι b=none)->((List.range ops.length).filter λi=>!Dn c i).length<=fuel->
   wpAny P .any ops.toArray Q fuel c a w:=by
 have D:∀(c:Array Bool) (ι:Inj) (a:Act) (w:World),c.size=ops.length->Inv n ι0 w0 ι (appD 0 recs (Dn c) s0) a w->Region.ready .any ops.toArray c=[]->Q .normal a w:=by
  intro c ι a w p x m;have C:∀j,j<ops.length->Dn c j=true:=by
   intro j
   induction j using Nat.strongRecOn with
   | _ j ih=>
    intro y;cases I:Dn c j with
    | true=>rfl
    | false=>
     have f:ops[j]?=some ops[j]:=by simp [y]
     have O:=tA p f I λe R H=>ih e.on (F.down j _ e f R H) (by have:=F.down j _ e f R H;omega);rw [m] at O;cases O
  rw [tt recs 0 (Dn c) s0 λj y=>by simpa using C j (by rw [<-F.len];exact y)] at x;exact T ι a w x
 intro fuel
 induction fuel with
 | zero=>
  intro c ι a w p s A x u hc;have m:Region.ready .any ops.toArray c=[]:=by
   rw [List.eq_nil_iff_forall_not_mem];intro i hi;obtain ⟨o,f,g,q,_⟩:=nT p hi;have:i∈(List.range ops.length).filter λi=>!Dn c i:=by simp [g,q]
   have:=AZ this;omega
  exact ⟨m,D c ι a w p x m⟩
 | succ fuel ih=>
  intro c ι a w p s A x u hc;refine ⟨D c ι a w p x,λi hi=>?_⟩;obtain ⟨o,f,g,q,L⟩:=nT p hi;obtain ⟨r,m⟩:=rf F f;have E:=(F.loc i o r f m).2 (B i (by rcases aA i kk with h | h;(· have:=s i h;rw [q] at this;cases this);exact h) g);have d:Dn (c.setIfInBounds i true)=λj=>if j=i then true else Dn c j:=by
   funext j;exact ta (by omega) j
  have G:=E (appD 0 recs (Dn c) s0) (λt W=>uI F A f q L W) (λb H=>tH F A f m q L H) (by rw [gO,gO]) (by rw [eI,eI]) ι0 w0 ι a w x (u i g q)
   (wpAny P .any ops.toArray Q fuel (c.setIfInBounds i true)) Q λN V w' U S=>by
    refine ih _ N V w' (by simpa using p) (λj y=>by rw [d];simp only;split;(· rfl);exact s j y) (by rw [d];exact A.add f L) (by rw [d];exact S.eqv (tX F A f m q)) (λj y l b M J=>?_) ?_
    ·rw [d] at l;by_cases k:j=i
     ·simp [k] at l
     ·simp only [k,aE] at l;rw [U b (by omega)];exact u j y l b M J
    ·have:((List.range ops.length).filter λj=>!Dn (c.setIfInBounds i true) j).length<((List.range ops.length).filter λj=>!Dn c j).length:=by
      rw [d];have z:((List.range ops.length).filter λj=>!(if j=i then true else Dn c j))=((List.range ops.length).filter λj=>!Dn c j).filter λj=>decide (j≠i):=by
       rw [xO];congr 1;funext j;by_cases k:j=i<;>simp [k]
      rw [z];refine yE.2 ⟨i,by simp [g,q],by simp⟩
     omega
  unfold wpOp;have K:ops.toArray[i]?=some o:=by simpa using f
  rw [K];simp only;split
  ·rename_i v;rw [ad v] at G;exact .inl G
  ·rename_i v;rw [ab v] at G;exact G
theorem FT {lim kk:Nat} (H:lim<ops.length) (g:∀j,kk<=j->j<lim->live j/\Must ops j lim) (A:∀j,lim<j->j<ops.length->Must ops lim j) {ι0:Inj} {w0:Base} {Q:Exit->Act->World->Prop}
  (Y:∀(fuel:Nat) (c:Array Bool) (ι:Inj) (a:Act) (w:World),c.size=ops.length->(∀j,j<lim->Dn c j=true)->Dn c lim=false->Down ops (Dn c)->Down ops (Dn (c.setIfInBounds lim true))->
   Inv n ι0 w0 ι (appD 0 recs (Dn c) s0) a w->((List.range ops.length).filter λi=>!Dn c i).length<=fuel+1->wpOp P ops.toArray Q lim (wpAny P .any ops.toArray Q fuel (c.setIfInBounds lim true)) a w):
  ∀(fuel:Nat) (c:Array Bool) (ι:Inj) (a:Act) (w:World),c.size=ops.length->(∀j,j<kk->Dn c j=true)->Down ops (Dn c)->Dn c lim=false->Inv n ι0 w0 ι (appD 0 recs (Dn c) s0) a w->
   (∀i,i<ops.length->Dn c i=false->∀b,nb0+8*i<=b->b<nb0+8*i+8->ι b=none)->((List.range ops.length).filter λi=>!Dn c i).length<=fuel->
   wpAny P .any ops.toArray Q fuel c a w:=by
 have O:∀(c:Array Bool),c.size=ops.length->Dn c lim=false->Region.ready .any ops.toArray c=[]->False:=by
  intro c u q s;have G:∀j,j<ops.length->Dn c j=true:=by
   intro j
   induction j using Nat.strongRecOn with
   | _ j ih=>
    intro B;cases L:Dn c j with
    | true=>rfl
    | false=>
     have f:ops[j]?=some ops[j]:=by simp [B]
     have V:=tA u f L λe W K=>ih e.on (F.down j _ e f W K) (by have:=F.down j _ e f W K;omega);rw [s] at V;cases V
  rw [G lim H] at q;cases q
 intro fuel
 induction fuel with
 | zero=>
  intro c ι a w u k m q S v hc;have:lim∈(List.range ops.length).filter λi=>!Dn c i:=by simp [H,q]
  have:=AZ this;omega
 | succ fuel ih=>
  intro c ι a w u k m q S v hc;refine ⟨λs=>(O c u q s).elim,λi hi=>?_⟩;obtain ⟨o,f,y,x,C⟩:=nT u hi;obtain ⟨r,s⟩:=rf F f;have d:Dn (c.setIfInBounds i true)=λj=>if j=i then true else Dn c j:=by
   funext j;exact ta (by omega) j
  by_cases E:i=lim
  ·subst E;refine Y fuel c ι a w u (λj B=>?_) x m (by rw [d];exact m.add f C) S hc;rcases aA j kk with h | h
   ·exact k j h
   ·exact (g j h B).2.in m f C (by omega)
  have N:ops.toArray[i]?=some o:=by simpa using f
  unfold wpOp;rw [N];simp only;have hlt':i<lim:=by
   rcases aA i lim with h | h
   ·exact h
   ·have:=(A i (by omega) y).in m f C (λe=>E e.symm);rw [q] at this;cases this
  have T:kk<=i:=by
   rcases aA i kk with h | h
   ·have:=k i h;rw [x] at this;cases this
   ·exact h
  have I:=(F.loc i o r f s).2 (g i T hlt').1
  have J:=I (appD 0 recs (Dn c) s0) (λt ht=>uI F m f x C ht) (λb K=>tH F m f s x C K) (by rw [gO,gO]) (by rw [eI,eI]) ι0 w0 ι a w S (v i y x)
   (wpAny P .any ops.toArray Q fuel (c.setIfInBounds i true)) Q λU a' w' Z X=>by
    refine ih _ U a' w' (by simpa using u) (λj B=>by rw [d];simp only;split;(· rfl);exact k j B) (by rw [d];exact m.add f C) (by rw [d];simp only [show ¬lim=i by omega,aE];exact q) (by rw [d];exact X.eqv (tX F m f s x)) (λj B p b R M=>?_) ?_
    ·rw [d] at p;by_cases l:j=i
     ·simp [l] at p
     ·simp only [l,aE] at p;rw [Z b (by omega)];exact v j B p b R M
    ·have:((List.range ops.length).filter λj=>!Dn (c.setIfInBounds i true) j).length<((List.range ops.length).filter λj=>!Dn c j).length:=by
      rw [d];have D:((List.range ops.length).filter λj=>!(if j=i then true else Dn c j))=((List.range ops.length).filter λj=>!Dn c j).filter λj=>decide (j≠i):=by
       rw [xO];congr 1;funext j;by_cases l:j=i<;>simp [l]
      rw [D];refine yE.2 ⟨i,by simp [y,x],by simp⟩
     omega
  split
  ·rename_i z;rw [ad z] at J;exact .inl J
  ·rename_i z;rw [ab z] at J;exact J
theorem Ep {lim:Nat} {ι0:Inj} {w0:Base} {Q:Exit->Act->World->Prop} {Z:Oper} {pr:Rec} {v:V} {wr:List (Nat×Blk)} (g:ops[lim]?=some Z) (M:recs[lim]?=some pr)
  (Y:sV P n nb0 ops lim Z v wr pr.rd (appD 0 recs (λm=>decide (m<lim)) s0))
  (C:∀j,j<ops.length->j≠lim->live j\/Must ops lim j)
  (hQ:∀D,Down ops D->(∀e∈Z.after.toList,Region.binds .any e=true->D e.on=true)->D lim=false->∀ι x a w,VR ι v x->Inv n ι0 w0 ι ((appD 0 recs D s0).app none none wr s0.nb) a w->Q (.panic [{ v:=x,recovered:=false }]) a w):
  ∀(fuel:Nat) (c:Array Bool) (ι:Inj) (a:Act) (w:World),c.size=ops.length->Down ops (Dn c)->Dn c lim=false->Inv n ι0 w0 ι (appD 0 recs (Dn c) s0) a w->
   (∀i,i<ops.length->Dn c i=false->∀b,nb0+8*i<=b->b<nb0+8*i+8->ι b=none)->((List.range ops.length).filter λi=>!Dn c i).length<=fuel->
   wpAny P .any ops.toArray Q fuel c a w:=by
 have K:lim<ops.length:=by
  rcases aA lim ops.length with S | S
  ·exact S
  ·rw [dx S] at g;cases g
 have fin:∀(c:Array Bool),c.size=ops.length->Dn c lim=false->Region.ready .any ops.toArray c=[]->False:=by
  intro c H y h;have J:∀j,j<ops.length->Dn c j=true:=by
   intro j
   induction j using Nat.strongRecOn with
   | _ j ih=>
    intro hj;cases T:Dn c j with
    | true=>rfl
    | false=>
     have f:ops[j]?=some ops[j]:=by simp [hj]
     have R:=tA H f T λe he G=>ih e.on (F.down j _ e f he G) (by have:=F.down j _ e f he G;omega);rw [h] at R;cases R
  rw [J lim K] at y;cases y
 intro fuel
 induction fuel with
 | zero=>
  intro c ι a w H q y hI k hc;have:lim∈(List.range ops.length).filter λi=>!Dn c i:=by simp [K,y]
  have:=AZ this;omega
 | succ fuel ih=>
  intro c ι a w H q y hI k hc;refine ⟨λh=>(fin c H y h).elim,λi hi=>?_⟩;obtain ⟨o,f,s,p,A⟩:=nT H hi;obtain ⟨r,h⟩:=rf F f;have W:ops.toArray[i]?=some o:=by simpa using f
  unfold wpOp;rw [W];simp only;by_cases z:i=lim
  case neg=>
   rcases C i s z with hlv | R
   case inr=>
    have:=R.in q f A (λe=>z e.symm);rw [y] at this;cases this
   have L:=(F.loc i o r f h).2 hlv;have d:Dn (c.setIfInBounds i true)=λj=>if j=i then true else Dn c j:=by
    funext j;exact ta (by omega) j
   have N:=L (appD 0 recs (Dn c) s0) (λt ht=>uI F q f p A ht) (λb G=>tH F q f h p A G) (by rw [gO,gO]) (by rw [eI,eI]) ι0 w0 ι a w hI (k i s p)
    (wpAny P .any ops.toArray Q fuel (c.setIfInBounds i true)) Q λE a' w' X O=>by
     refine ih _ E a' w' (by simpa using H) (by rw [d];exact q.add f A) (by rw [d];simp only [show ¬lim=i by omega,aE];exact y) (by rw [d];exact O.eqv (tX F q f h p)) (λj hj u b hb1 U=>?_) ?_
     ·rw [d] at u;by_cases l:j=i
      ·simp [l] at u
      ·simp only [l,aE] at u;rw [X b (by omega)];exact k j hj u b hb1 U
     ·have:((List.range ops.length).filter λj=>!Dn (c.setIfInBounds i true) j).length<((List.range ops.length).filter λj=>!Dn c j).length:=by
       rw [d];have I:((List.range ops.length).filter λj=>!(if j=i then true else Dn c j))=((List.range ops.length).filter λj=>!Dn c j).filter λj=>decide (j≠i):=by
        rw [xO];congr 1;funext j;by_cases l:j=i<;>simp [l]
       rw [I];refine yE.2 ⟨i,by simp [s,p],by simp⟩
      omega
   split
   ·rename_i B;rw [ad B] at N;exact .inl N
   ·rename_i B;rw [ab B] at N;exact N
  case pos=>
   subst z;rw [g] at f;cases f;rw [M] at h;cases h
   obtain ⟨q1,q2⟩:=Y (appD 0 recs (Dn c) s0) (λt ht=>uI F q g p A ht) (λb G=>tH F q g M p A G) (by rw [gO,gO]) (by rw [eI,eI]) ι0 w0 ι a w hI (k i s p)
    (wpAny P .any ops.toArray Q fuel (c.setIfInBounds i true)) Q λE x w' X O=>hQ _ q A p E x a w' X (by rw [gO] at O;exact O)
   rw [ad q1];exact .inl q2
end
theorem vX:∀{l:List Nat} {j:Nat},l.length<=j->getN l j=0
 | [],_,_=>rfl
 | _::_,0,h=>by simp at h
 | _::l,j+1,h=>vX (l:=l) (by simpa using h)
theorem mI:∀{l m:List Nat} {j:Nat},j<l.length->getN (l++m) j=getN l j
 | [],_,_,h=>by simp at h
 | _::_,_,0,_=>rfl
 | _::l,m,j+1,h=>mI (l:=l) (m:=m) (by simpa using h)
theorem mr:∀(l:List Nat) (x:Nat),getN (l++[x]) l.length=x
 | [],_=>rfl
 | _::l,x=>mr l x
theorem nj (b:List Nat):∀(l:List Edge) (s i:Nat),(uO b l s).testBit i=true->s.testBit i=true\/∃e∈l,Region.binds .any e=true/\(e.on=i\/(getN b e.on).testBit i=true)
 | [],s,i,h=>.inl h
 | e::l,s,i,h=>by
  simp only [uO] at h;split at h
  ·rename_i g;rcases nj b l _ i h with a | ⟨d,c,f⟩
   ·simp only [Nat.testBit_or,eT] at a;rcases a with (a | a) | a
    ·exact .inl a
    ·refine .inr ⟨e,by simp,g,.inl ?_⟩;rw [Nat.testBit_two_pow] at a;simpa using a
    ·exact .inr ⟨e,by simp,g,.inr a⟩
   ·exact .inr ⟨d,iL _ c,f⟩
  ·rcases nj b l _ i h with a | ⟨d,c,f⟩
   ·exact .inl a
   ·exact .inr ⟨d,iL _ c,f⟩
theorem kL (ops:List Oper):∀(r:List Oper) (a:List Nat),(∀j,r[j]?=ops[a.length+j]?)->(∀j i,(getN a j).testBit i=true->Must ops i j)->
  ∀j i,(getN (gg r a) j).testBit i=true->Must ops i j
 | [],a,_,h=>h
 | o::r,a,l,h=>by
  simp only [gg];refine kL ops r _ (λj=>by have:=l (j+1);simp only [xQ] at this;rw [this];simp;congr 1;omega) λj i b=>?_;rcases wT j a.length with g | f | p
  ·rw [mI g] at b;exact h j i b
  ·subst f;rw [mr] at b;have q:ops[a.length]?=some o:=by have:=l 0;simpa using this.symm
   rcases nj a _ _ _ b with c | ⟨e,s,k,c⟩
   ·simp at c
   ·intro D m d;have n:=m a.length o e q d s k;rcases c with rfl | c
    ·exact n
    ·exact h e.on i c D m n
  ·rw [vX (by simp;omega)] at b;simp at b
theorem ft:∀(l:List Oper) (i:Nat),lQ i l=true->∀(j:Nat) (o:Oper) (e:Edge),l[j]?=some o->e∈o.after.toList->Region.binds .any e=true->e.on<i+j
 | [],_,_,_,_,_,h,_,_=>by simp at h
 | o::l,i,h,j,d,e,a,b,c=>by
  simp only [lQ,av,bz] at h;cases j with
  | zero=>
   simp only [il,ae] at a;subst a;have:=h.1 e b;simp only [c,dJ,xH] at this;exact ax this
  | succ j=>have:=ft l (i+1) h.2 j d e (by simpa using a) b c;omega
theorem mz {ops:Array Oper} {o:Oper} {a:Nat}:∀(l:List Oper) (i:Nat),nN ops o a i l=true->∀(j:Nat) (p:Oper),l[j]?=some p->a.testBit (i+j)=true\/p.apart ops o=true
 | [],_,_,_,_,h=>by simp at h
 | q::l,i,h,j,p,b=>by
  simp only [nN,av,eT] at h;cases j with
  | zero=>simp only [il,ae] at b;subst b;exact h.1
  | succ j=>have:=mz l (i+1) h.2 j p (by simpa using b);rwa [show i+1+j=i+(j+1) by omega] at this
theorem iS {ops:Array Oper} {masks:List Nat}:∀(l a:List Oper),nW ops masks a.length a l=true->∀(i j:Nat) (x y:Oper),i<a.length+j->(a++l)[i]?=some x->l[j]?=some y->
  (getN masks (a.length+j)).testBit i=true\/x.apart ops y=true
 | [],_,_,_,_,_,_,_,_,h=>by simp at h
 | o::l,a,h,i,j,x,y,hi,b,c=>by
  simp only [nW,av] at h;cases j with
  | zero=>
   simp only [il,ae] at c;subst c;have:=mz a 0 h.1 i x (by rw [jl (by simpa using hi)] at b;exact b);simpa using this
  | succ j=>
   have d:=h.2;rw [show a.length+1=(a++[o]).length by simp] at d;have:=iS l (a++[o]) d i j x y (by simp;omega) (by simpa using b) (by simpa using c);rwa [show (a++[o]).length+j=a.length+(j+1) by simp;omega] at this
theorem lK {masks:List Nat}:∀{tr:List TE},kI masks tr=true->∀x∈tr,∀y∈tr,x.i<y.i->qw masks x y=true\/qw masks y x=true
 | [],_,x,d,_,_,_=>by cases d
 | z::l,h,x,d,y,e,c=>by
  simp only [kI,av,bz] at h;rcases cY.1 d with b | b
  ·subst b;rcases cY.1 e with a | a
   ·subst a;omega
   ·exact .inl (h.1 y a)
  ·rcases cY.1 e with a | a
   ·subst a;exact .inr (h.1 x b)
   ·exact lK h.2 x b y a c
theorem rL {x y:TE} (h:GY x y=false):(∀b∈x.ws,b∉y.rd/\b∉y.ws)/\∀b∈x.rd,b∉y.ws:=by
 simp only [GY,xM,nQ,eT,not_or,List.contains_iff_mem] at h;exact ⟨λb a=>h.1 b a,λb a=>h.2 b a⟩
theorem uR {masks:List Nat} {x y:TE} (h:qw masks x y=true\/qw masks y x=true) (e:x.i<y.i):
  (getN masks y.i).testBit x.i=true\/((∀b∈x.ws,b∉y.rd/\b∉y.ws)/\∀b∈x.rd,b∉y.ws):=by
 have g:Nat.blt x.i y.i=true:=cZ e;have k:Nat.blt y.i x.i=false:=by
  cases j:Nat.blt y.i x.i with
  | false=>rfl
  | true=>have:y.i<x.i:=ax j;omega
 rcases h with h | h
 ·simp only [qw,g,ar,eT,kj] at h;exact h.imp id rL
 ·simp only [qw,k,af,eT,kj] at h;refine h.imp id λh=>?_;obtain ⟨a,b⟩:=rL h;exact ⟨λc hc=>⟨λf=>b c f hc,λd=>(a c d).2 hc⟩,λc hc d=>(a c d).1 hc⟩
theorem oH:∀(ops:List Oper) {T:List (Nat×Option V)} (t:Nat) (v:V),look (Ae ops T) t=some (some v)->(∀o∈ops,o.dst≠some t)/\look T t=some (some v)
 | [],T,t,v,h=>⟨by simp,h⟩
 | o::l,T,t,v,h=>by
  simp only [Ae] at h;split at h
  ·rename_i d g;rw [aF] at h;split at h
   ·cases h
   ·rename_i b;obtain ⟨c,f⟩:=oH l t v h;refine ⟨λx a=>?_,f⟩;rcases cY.1 a with rfl | a
    ·rw [g];intro e;cases e;exact b rfl
    ·exact c x a
  ·rename_i g;obtain ⟨c,f⟩:=oH l t v h;refine ⟨λx a=>?_,f⟩;rcases cY.1 a with rfl | a
   ·rw [g];intro e;cases e
   ·exact c x a
theorem zY {α:Type} {E:List Ent} (hE:∀x∈E,cD P x) {n:Nat} {ops:List Oper} {s:St} {k:Ex->St->Option α} {z:α} (h:xm P E n ops s k=some z) (id:Nat):
  SemC P n (.region id ops.toArray true) s λex s'=>k ex s'=some z:=by
 intro ι0 w0 ι a w hI;unfold xm at h;split at h
 case h_2=>cases h
 rename_i hok;simp only [av,yK] at hok;obtain ⟨⟨hb1,hb2,_⟩,V⟩:=hok;have g:=kL ops ops [] (by simp) (λj i u=>by simp [getN] at u);have hI1:Inv n ι0 w0 ι { s with nb:=s.nb+8*ops.length } a { w with drawn:=w.drawn+1 }:=by
  have d:=hI.drawn (w.drawn+1);exact ⟨d.size,d.defers,d.tmps,⟨d.mem.inj,λb r u=>by have:=d.mem.low b r u;simp only;omega,d.mem.dom,d.mem.blk⟩,d.ext,d.new,d.fr,d.low,d.fz,d.gl⟩
 have N:∀i,Dn (Array.replicate ops.toArray.size false) i=false:=by
  intro i;unfold Dn;simp only [lB,I7];split<;>rfl
 have hno:∀(l:List Rec) (i:Nat) (D:Nat->Bool) (s:St),(∀j,D j=false)->appD i l D s=s:=by
  intro l
  induction l with
  | nil=>intros;rfl
  | cons r l ih=>intro i D s hD;simp only [appD,hD i,bT,aE];exact ih _ D s hD
 have G:∀(trf:List TE) (x y:Rec) (i j:Nat),kI (gg ops []) (trf.filter λx=>!(x.rd.isEmpty&&x.ws.isEmpty))=true->i<j->((⟨0+i,x.rd,keys x.wr⟩:TE)∈trf\/(x.rd=[]/\x.wr=[]))->((⟨0+j,y.rd,keys y.wr⟩:TE)∈trf\/(y.rd=[]/\y.wr=[]))->
   Must ops i j\/((∀b∈keys x.wr,b∉y.rd/\b∉keys y.wr)/\∀b∈x.rd,b∉keys y.wr):=by
  intro trf x y i j L C B I;rcases B with hxm | ⟨hx1,hx2⟩
  ·rcases I with hym | ⟨hy1,hy2⟩
   ·simp only [bM] at hxm hym;by_cases X:(x.rd=[]/\x.wr=[])
    ·exact .inr (by simp [X.1,X.2,keys])
    ·by_cases he2:(y.rd=[]/\y.wr=[])
     ·exact .inr (by simp [he2.1,he2.2,keys])
     ·have m1:(⟨i,x.rd,keys x.wr⟩:TE)∈trf.filter λx=>!(x.rd.isEmpty&&x.ws.isEmpty):=by
       refine lM.2 ⟨hxm,?_⟩;simp only [keys,kj,xU,y3];rcases yk (x.rd=[]) with h | h
       ·exact .inr (by simpa using λhw=>X ⟨h,hw⟩)
       ·exact .inl h
      have m2:(⟨j,y.rd,keys y.wr⟩:TE)∈trf.filter λx=>!(x.rd.isEmpty&&x.ws.isEmpty):=by
       refine lM.2 ⟨hym,?_⟩;simp only [keys,kj,xU,y3];rcases yk (y.rd=[]) with h | h
       ·exact .inr (by simpa using λhw=>he2 ⟨h,hw⟩)
       ·exact .inl h
      have:=uR (lK L _ m1 _ m2 C) C;exact this.imp (g j i) λh=>h
   ·exact .inr (by simp [hy1,hy2,keys])
  ·exact .inr (by simp [hx1,hx2,keys])
 rcases uF hE ops 0 _ [] (by simp) h with ⟨recs,R,trf,g1,U,S,_,Y,g6⟩ | ⟨p,po,recs,R,sp,trf,v,wr,rp,g1,g0,gr,gd,gw,rfl,U,S,_,g7,Y,g6⟩
 ·split at U
  case h_2=>cases U
  rename_i L;have F:DrawFacts P n s.nb ops recs { s with nb:=s.nb+8*ops.length } (λ_=>True):=by
   refine ⟨g1,rfl,λj o r Q W=>?_,λj o e Q he u=>?_,λi j x y C B I=>?_,λi j x y C B I=>?_⟩
   ·obtain ⟨p1,p2⟩:=g6 j o r Q W;simp only [bM] at p2;have e:=lC recs 0 j { s with nb:=s.nb+8*ops.length };simp only [bM] at e;exact ⟨λt ht=>p1▸ht,λ_=>p2.eqv e⟩
   ·have:=ft ops 0 hb1 j o e Q he u;omega
   ·have:=iS (masks:=gg ops []) ops [] hb2 i j x y (by simpa using C) (by simpa using B) I;simp only [jC,bM] at this;exact this.imp (g j i) λh=>h
   ·exact G trf x y i j L C (Y i x B) (Y j y I)
  refine wp_region_any V (vt (kk:=0) F (λ_ _ _=>trivial) (λO a' w' f=>⟨.normal,R,O,rfl,f.eqv S.symm,U⟩) _ _ ι a _ (by simp) (λj hj=>by omega) (λj o e _ J=>by rw [N j] at J;cases J) (by rw [hno recs 0 _ _ N];exact hI1) (λi _ _ b u _=>?_) ?_)
  ·exact hI.fresh b (by omega)
  ·have:=Bi (λi=>!Dn (Array.replicate ops.toArray.size false) i) (List.range ops.length);simpa using this
 ·split at U
  case h_2=>cases U
  rename_i hpk;simp only [av,IW] at hpk;obtain ⟨hw,L⟩:=hpk;simp only [bM] at U g7 hw;have C:p<ops.length:=by
   rcases aA p ops.length with h' | h'
   ·exact h'
   ·rw [dx h'] at g0;cases g0
  have A:∀i r,recs[i]?=some r->i≠p->(i<p/\Must ops i p)\/r.wr=[]:=by
   intro i r W K;rcases Y i r W K with B | B
   ·have:=(bz.1 hw) _ B;simp only [bM,eT,av] at this;rcases this with h | h
    ·right;simpa [keys] using h
    ·exact .inl ⟨ax h.1,g p i h.2⟩
   ·exact .inr B.2
  have g5':∀(j:Nat) (r:Rec),recs[j]?=some r->j≠p->(⟨0+j,r.rd,keys r.wr⟩:TE)∈trf\/(r.rd=[]/\r.wr=[]):=Y;have F:DrawFacts P n s.nb ops recs { s with nb:=s.nb+8*ops.length } (λj=>j<p\/(p<j/\(getN (gg ops []) (0+j)).testBit (0+p)=false)):=by
   refine ⟨g1,rfl,λj o r Q W=>?_,λj o e Q he u=>?_,λi j x y Z B I=>?_,λi j x y Z B I=>?_⟩
   ·obtain ⟨p1,p2⟩:=g6 j o r Q W;have e:=lC recs 0 j { s with nb:=s.nb+8*ops.length };simp only [bM] at e p2 ⊢;exact ⟨λt ht=>p1▸ht,λhc=>(p2 hc).eqv e⟩
   ·have:=ft ops 0 hb1 j o e Q he u;omega
   ·have:=iS (masks:=gg ops []) ops [] hb2 i j x y (by simpa using Z) (by simpa using B) I;simp only [jC,bM] at this;exact this.imp (g j i) λh=>h
   ·by_cases K:i=p
    ·
     subst K;rw [gr] at B;cases B;rcases A j y I (by omega) with ⟨h,_⟩ | h
     ·omega
     ·exact .inr (by simp [gw,h,keys])
    ·by_cases M:j=p
     ·subst M;rw [gr] at I;cases I;rcases A i x B K with ⟨_,h⟩ | h
      ·exact .inl h
      ·exact .inr (by simp [gw,h,keys])
     ·exact G trf x y i j L Z (Y i x B K) (Y j y I M)
  have c:Eqv ((recs.take p).foldl St.put { s with nb:=s.nb+8*ops.length }) (appD 0 recs (λm=>decide (m<p)) { s with nb:=s.nb+8*ops.length }):=by
   have e:=lC recs 0 p { s with nb:=s.nb+8*ops.length };simpa using e
  have hdead:∀j,j<ops.length->j≠p->(j<p\/(p<j/\(getN (gg ops []) (0+j)).testBit (0+p)=false))\/Must ops p j:=by
   intro j _ hne;cases u:(getN (gg ops []) (0+j)).testBit (0+p) with
   | false=>exact .inl ((Nat.lt_or_gt_of_ne hne).imp (λh=>h) λh=>⟨h,rfl⟩)
   | true=>simp only [bM] at u;exact .inr (g j p u)
  refine wp_region_any V (Ep F g0 gr (g7.eqv c) hdead (λD hD hd hn O x a' w' hv f=>⟨.pan v,_,O,⟨x,rfl,hv⟩,?inv,U⟩) _ _ ι a _ (by simp) (λj o e _ J=>by rw [N j] at J;cases J) (N p) (by rw [hno _ 0 _ _ N];exact hI1) (λi _ _ b u _=>?fresh) ?len)
  case inv=>
   have hH:∀b,look R.H b=look (appD 0 recs D { s with nb:=s.nb+8*ops.length }).H b:=by
    intro b;rw [S.H,c.H,rt,rt];refine kY _ 0 _ _ b _ λj r hj u=>?_;simp only [bM];by_cases M:j=p
    ·subst M;rw [gr] at hj;cases hj;rw [gw] at u;simp [keys] at u
    ·rcases A j r hj M with ⟨d,hm⟩ | hm
     ·rw [hm.in hD g0 hd (by omega)];simp [d]
     ·rw [hm] at u;simp [keys] at u
   have hT:∀t v,look (Ae ops s.T) t=some (some v)->look (appD 0 recs D { s with nb:=s.nb+8*ops.length }).T t=some (some v):=by
    intro t v ht;obtain ⟨d,h2⟩:=oH ops t v ht;rw [sN,sw _ 0 D t _ λj r hj W=>?_]
    ·exact h2
    ·exfalso;obtain ⟨o,Q⟩:=qX F hj;exact d o (gD Q) ((F.loc j o r Q hj).1 t W)
   refine ⟨f.size,f.defers,λt v ht=>f.tmps t v (hT t v ht),⟨f.mem.inj,λb r u=>?_,f.mem.dom,λb blk hl hdd=>f.mem.blk b blk ?_ hdd⟩,?_,f.new,?_,λb r u=>?_,?_,?_⟩
   ·have:=f.mem.low b r u;have e:=S.nb.trans c.nb;rw [gO] at e;show b<R.nb;rw [e];exact this
   ·show look (wr++(appD 0 recs D { s with nb:=s.nb+8*ops.length }).H) b=_;rw [kD,<-hH b,<-kD];exact hl
   ·have e:=S.rb.trans c.rb;rw [rW] at e;have d:=f.ext;show ∀b q,ι0 b=some q->O b=some q\/R.rb<=b;rw [e];simp only [St.app,rW] at d;exact d
   ·have e:=S.ro.trans c.ro;rw [eI] at e;have d:=f.fr;show Fr (roI ι0 R.ro) w0.w w';rw [e];simp only [St.app,eI] at d;exact d
   ·have e:=S.lo.trans c.lo;rw [rM] at e;have d:=f.low b r u;show b<R.lo;rw [e];simp only [St.app,rM] at d;exact d
   ·have e:=S.ro.trans c.ro;rw [eI] at e;have d:=f.fz;show ∀b q,O b=some (some q)->q.fz=true->b<R.ro;rw [e];simp only [St.app,eI] at d;exact d
   ·have e:=S.ro.trans c.ro;rw [eI] at e;have d:=f.gl;show GL (roI ι0 R.ro) w0.w;rw [e];simp only [St.app,eI] at d;exact d
  case fresh=>exact hI.fresh b (by omega)
  case len=>
   have:=Bi (λi=>!Dn (Array.replicate ops.toArray.size false) i) (List.range ops.length);simpa using this
end Go.Abs
