
/- A region that draws its order: where what is unordered does not meet, every order comes to what the order of the text comes to.
   Conditions: none; generic over the program. -/
import Derived.Test.YthemneooekobkaaGreatDoorAbsM
set_option linter.unusedSimpArgs false
set_option linter.unusedVariables false
namespace Go.Abs
variable {P:Program}
structure Rec where
 dst:Option Nat
 val:Option V
 wr:List (Nat×Blk)
 rd:List Nat
def St.put (s:St) (r:Rec):St:=s.app r.dst r.val r.wr s.nb
def keys (wr:List (Nat×Blk)):List Nat:=wr.map (·.1)
theorem nS {α:Type} (l m:List (Nat×α)) (n:Nat):look (l++m) n=(look l n).or (look m n):=by
 induction l with
 | nil=>rfl
 | cons x l ih=>
  obtain ⟨k,v⟩:=x;rw [ki,aP,aP];split
  ·rfl
  ·exact ih
theorem oO {α:Type} {l:List (Nat×α)} {n:Nat} (h:n∉l.map (·.1)):look l n=none:=by
 induction l with
 | nil=>rfl
 | cons x l ih=>
  obtain ⟨k,v⟩:=x;simp only [fa,cA,not_or] at h;rw [aP,ab (λe=>h.1 e.symm)];exact ih h.2
theorem pM {α:Type} {l:List (Nat×α)} {n:Nat} (h:n∈l.map (·.1)):∃v,look l n=some v:=by
 induction l with
 | nil=>simp at h
 | cons x l ih=>
  obtain ⟨k,v⟩:=x;rw [aP];split
  ·exact ⟨v,rfl⟩
  ·rename_i a;simp only [fa,cA] at h;exact ih (h.resolve_left λe=>a e.symm)
theorem LH (s:St) (r:Rec) (t:Nat):look (s.put r).T t=if r.dst=some t then some r.val else look s.T t:=by
 unfold St.put St.app;cases a:r.dst with
 | none=>simp
 | some d=>
  simp only [aP];by_cases h:d=t
  ·subst h;simp
  ·simp [h]
theorem K9 (s:St) (r:Rec) (b:Nat):look (s.put r).H b=(look r.wr b).or (look s.H b):=nS _ _ _
theorem Rb (s:St) (r:Rec):(s.put r).nb=s.nb:=rfl
structure Eqv (s s':St):Prop where
 T:∀t,look s.T t=look s'.T t
 H:∀b,look s.H b=look s'.H b
 nb:s.nb=s'.nb
 lo:s.lo=s'.lo
 ro:s.ro=s'.ro
 rb:s.rb=s'.rb
theorem Eqv.refl (s:St):Eqv s s:=⟨λ_=>rfl,λ_=>rfl,rfl,rfl,rfl,rfl⟩
theorem Eqv.symm {s A:St} (h:Eqv s A):Eqv A s:=⟨λt=>(h.T t).symm,λb=>(h.H b).symm,h.nb.symm,h.lo.symm,h.ro.symm,h.rb.symm⟩
theorem Eqv.trans {a b c:St} (h:Eqv a b) (k:Eqv b c):Eqv a c:=⟨λt=>(h.T t).trans (k.T t),λt=>(h.H t).trans (k.H t),h.nb.trans k.nb,h.lo.trans k.lo,h.ro.trans k.ro,h.rb.trans k.rb⟩
theorem Eqv.put {s A:St} (h:Eqv s A) (r:Rec):Eqv (s.put r) (A.put r):=
 ⟨λt=>by rw [LH,LH,h.T],λb=>by rw [K9,K9,h.H],h.nb,h.lo,h.ro,h.rb⟩
theorem Eqv.puts:∀(l:List Rec) {s A:St},Eqv s A->Eqv (l.foldl St.put s) (l.foldl St.put A)
 | [],_,_,h=>h
 | r::l,_,_,h=>Eqv.puts l (h.put r)
theorem Inv.eqv {n:Nat} {ι0 ι:Inj} {w0:Base} {s C:St} {a:Act} {w:World} (h:Inv n ι0 w0 ι s a w) (e:Eqv s C):Inv n ι0 w0 ι C a w:=
 ⟨h.size,h.defers,λt v G=>h.tmps t v (by rw [e.T];exact G),⟨h.mem.inj,λb r A=>by rw [<-e.nb];exact h.mem.low b r A,h.mem.dom,λb blk F E=>h.mem.blk b blk (by rw [e.H];exact F) E⟩,by rw [<-e.rb];exact h.ext,h.new,by rw [<-e.ro];exact h.fr,λb r A=>by rw [<-e.lo];exact h.low b r A,by rw [<-e.ro];exact h.fz,by rw [<-e.ro];exact h.gl⟩
def appD:Nat->List Rec->(Nat->Bool)->St->St
 | _,[],_,s=>s
 | i,r::l,D,s=>appD (i+1) l D (if D i=true then s.put r else s)
def uD:Nat->List Rec->(Nat->Bool)->Nat->Option (Option V)->Option (Option V)
 | _,[],_,_,x=>x
 | i,r::l,D,t,x=>uD (i+1) l D t (if D i=true/\r.dst=some t then some r.val else x)
def uX:Nat->List Rec->(Nat->Bool)->Nat->Option Blk->Option Blk
 | _,[],_,_,x=>x
 | i,r::l,D,b,x=>uX (i+1) l D b (if D i=true then (look r.wr b).or x else x)
theorem xh:∀(l:List Rec) (i:Nat) (D:Nat->Bool) (s:St) (t:Nat),look (appD i l D s).T t=uD i l D t (look s.T t)
 | [],_,_,_,_=>rfl
 | r::l,i,D,s,t=>by
  simp only [appD,uD,xh l];congr 1;cases D i
  ·simp
  ·simp only [jm,aY];rw [LH]
theorem uz:∀(l:List Rec) (i:Nat) (D:Nat->Bool) (s:St) (b:Nat),look (appD i l D s).H b=uX i l D b (look s.H b)
 | [],_,_,_,_=>rfl
 | r::l,i,D,s,b=>by
  simp only [appD,uX,uz l];congr 1;cases D i
  ·simp
  ·simp only [aY];rw [K9]
theorem kz:∀(l:List Rec) (i:Nat) (D:Nat->Bool) (s:St),(appD i l D s).nb=s.nb
 | [],_,_,_=>rfl
 | r::l,i,D,s=>by
  simp only [appD,kz l];split<;>rfl
theorem gZ:∀(l:List Rec) (i:Nat) (D:Nat->Bool) (s:St),(appD i l D s).ro=s.ro
 | [],_,_,_=>rfl
 | r::l,i,D,s=>by
  simp only [appD,gZ l];split<;>rfl
theorem um:∀(l:List Rec) (i:Nat) (D:Nat->Bool) (s:St),(appD i l D s).lo=s.lo
 | [],_,_,_=>rfl
 | r::l,i,D,s=>by
  simp only [appD,um l];split<;>rfl
theorem wb:∀(l:List Rec) (i:Nat) (D:Nat->Bool) (s:St),(appD i l D s).rb=s.rb
 | [],_,_,_=>rfl
 | r::l,i,D,s=>by
  simp only [appD,wb l];split<;>rfl
theorem qz:∀(l:List Rec) (i:Nat) (D a:Nat->Bool) (t:Nat) (x:Option (Option V)),(∀j r,l[j]?=some r->r.dst=some t->D (i+j)=a (i+j))->uD i l D t x=uD i l a t x
 | [],_,_,_,_,_,_=>rfl
 | r::l,i,D,a,t,x,h=>by
  simp only [uD];have c:=h 0 r (by simp);simp only [fg] at c;rw [qz l (i+1) D a t _ λj d f e=>by have:=h (j+1) d (by simpa using f) e;rwa [show i+(j+1)=i+1+j by omega] at this];congr 1;by_cases b:r.dst=some t
  ·rw [c b]
  ·simp [b]
theorem xx (l:List Rec) (i:Nat) (D:Nat->Bool) (t:Nat) (x:Option (Option V)) (h:∀j r,l[j]?=some r->r.dst=some t->D (i+j)=false):uD i l D t x=x:=by
 induction l generalizing i x with
 | nil=>rfl
 | cons r l ih=>
  simp only [uD];have a:=h 0 r (by simp);simp only [fg] at a;have:¬(D i=true/\r.dst=some t):=λ⟨b,c⟩=>by rw [a c] at b;cases b
  rw [ab this];exact ih (i+1) x λj d f e=>by have:=h (j+1) d (by simpa using f) e;rwa [show i+(j+1)=i+1+j by omega] at this
theorem Df:∀(l:List Rec) (i j:Nat) (D:Nat->Bool) (t:Nat) (x:Option (Option V)) (r:Rec),l[j]?=some r->D (i+j)=true->r.dst=some t->
  (∀k b,j<k->l[k]?=some b->b.dst=some t->D (i+k)=false)->uD i l D t x=some r.val
 | [],_,_,_,_,_,_,h,_,_,_=>by simp at h
 | r0::l,i,0,D,t,x,r,h,e,c,a=>by
  simp only [kb,am] at h;subst h;simp only [fg] at e;simp only [uD];rw [ad ⟨e,c⟩];exact xx l (i+1) D t _ λk b f d=>by have:=a (k+1) b (by omega) (by simpa using f) d;rwa [show i+(k+1)=i+1+k by omega] at this
 | r0::l,i,j+1,D,t,x,r,h,e,c,a=>by
  simp only [uD]
  exact Df l (i+1) j D t _ r (by simpa using h) (by rwa [show i+1+j=i+(j+1) by omega]) c λk b f g d=>by
   have:=a (k+1) b (by omega) (by simpa using g) d;rwa [show i+(k+1)=i+1+k by omega] at this
theorem nY:∀(l:List Rec) (i:Nat) (D a:Nat->Bool) (b:Nat) (x:Option Blk),(∀j r,l[j]?=some r->b∈keys r.wr->D (i+j)=a (i+j))->uX i l D b x=uX i l a b x
 | [],_,_,_,_,_,_=>rfl
 | r::l,i,D,a,b,x,h=>by
  simp only [uX];have d:=h 0 r (by simp);simp only [fg] at d;rw [nY l (i+1) D a b _ λj e g f=>by have:=h (j+1) e (by simpa using g) f;rwa [show i+(j+1)=i+1+j by omega] at this];congr 1;by_cases c:b∈keys r.wr
  ·rw [d c]
  ·simp [oO c]
theorem FI (l:List Rec) (i:Nat) (D:Nat->Bool) (b:Nat) (x:Option Blk) (h:∀j r,l[j]?=some r->b∈keys r.wr->D (i+j)=false):uX i l D b x=x:=by
 induction l generalizing i x with
 | nil=>rfl
 | cons r l ih=>
  simp only [uX];have c:=h 0 r (by simp);simp only [fg] at c;have:(if D i=true then (look r.wr b).or x else x)=x:=by
   by_cases a:b∈keys r.wr
   ·rw [c a];simp
   ·rw [oO a];simp
  rw [this];exact ih (i+1) x λj d f e=>by have:=h (j+1) d (by simpa using f) e;rwa [show i+(j+1)=i+1+j by omega] at this
theorem Ez:∀(l:List Rec) (i j:Nat) (D:Nat->Bool) (b:Nat) (x:Option Blk) (r:Rec),l[j]?=some r->D (i+j)=true->b∈keys r.wr->
  (∀k c,j<k->l[k]?=some c->b∈keys c.wr->D (i+k)=false)->uX i l D b x=look r.wr b
 | [],_,_,_,_,_,_,h,_,_,_=>by simp at h
 | r0::l,i,0,D,b,x,r,h,f,d,a=>by
  simp only [kb,am] at h;subst h;simp only [fg] at f;simp only [uX];obtain ⟨v,n⟩:=pM d;rw [ad f,n];exact FI l (i+1) D b _ λk c g e=>by have:=a (k+1) c (by omega) (by simpa using g) e;rwa [show i+(k+1)=i+1+k by omega] at this
 | r0::l,i,j+1,D,b,x,r,h,f,d,a=>by
  simp only [uX]
  exact Ez l (i+1) j D b _ r (by simpa using h) (by rwa [show i+1+j=i+(j+1) by omega]) d λk c g m e=>by
   have:=a (k+1) c (by omega) (by simpa using m) e;rwa [show i+(k+1)=i+1+k by omega] at this
theorem oN:∀(l:List Rec) (i j:Nat) (s:St),Eqv ((l.take j).foldl St.put s) (appD i l (λm=>decide (m<i+j)) s)
 | [],i,j,s=>by simp [appD];exact Eqv.refl s
 | r::l,i,0,s=>by
  have:∀(l:List Rec) (i a:Nat) (s:St),i<=a->appD a l (λm=>decide (m<i)) s=s:=by
   intro l
   induction l with
   | nil=>intros;rfl
   | cons r l ih=>intro i a s h;simp only [appD,show ¬a<i by omega,ny,cE,aG];exact ih i (a+1) s (by omega)
  simp only [mI,Dp,fg];rw [this (r::l) i i s (aW _)];exact Eqv.refl s
 | r::l,i,j+1,s=>by
  simp only [oP,tc,appD,show i<i+(j+1) by omega,np,aY];have:=oN l (i+1) j (s.put r);rwa [show (λm=>decide (m<i+1+j))=λm=>decide (m<i+(j+1)) by funext m;simp only [qA];omega] at this
theorem zg:∀(l:List Rec) (i:Nat) (D:Nat->Bool) (s:St),(∀j,j<l.length->D (i+j)=true)->appD i l D s=l.foldl St.put s
 | [],_,_,_,_=>rfl
 | r::l,i,D,s,h=>by
  have a:=h 0 (by simp);simp only [fg] at a;simp only [appD,a,aY,tc];exact zg l (i+1) D _ λj b=>by have:=h (j+1) (by simpa using b);rwa [show i+(j+1)=i+1+j by omega] at this
def sS (P:Program) (n nb0:Nat) (ops:List Oper) (i:Nat) (o:Oper) (r:Rec) (base:St):Prop:=
 ∀c:St,(∀t∈o.looksAt ops.toArray,look c.T t=look base.T t)->(∀b∈r.rd,look c.H b=look base.H b)->c.nb=base.nb->c.ro=base.ro->
  ∀(ι0:Inj) (w0:Base) (ι:Inj) (a:Act) (w:World),Inv n ι0 w0 ι c a w->(∀b,nb0+8*i<=b->b<nb0+8*i+8->ι b=none)->∀(K:Act->World->Prop) (Q:Exit->Act->World->Prop),
   (∀d e w',(∀b,(b<nb0+8*i\/nb0+8*i+8<=b)->d b=ι b)->Inv n ι0 w0 d (c.put r) e w'->K e w')->
   if Region.wanted o (yielded ops.toArray a.tmps) then o.wp P a w K Q else K (a.put o.dst undef) w
def wB (P:Program) (n nb0:Nat) (ops:List Oper) (i:Nat) (o:Oper) (v:V) (wr:List (Nat×Blk)) (rd:List Nat) (base:St):Prop:=
 ∀c:St,(∀t∈o.looksAt ops.toArray,look c.T t=look base.T t)->(∀b∈rd,look c.H b=look base.H b)->c.nb=base.nb->c.ro=base.ro->
  ∀(ι0:Inj) (w0:Base) (ι:Inj) (a:Act) (w:World),Inv n ι0 w0 ι c a w->(∀b,nb0+8*i<=b->b<nb0+8*i+8->ι b=none)->∀(K:Act->World->Prop) (Q:Exit->Act->World->Prop),
   (∀d x w',VR d v x->Inv n ι0 w0 d (c.app none none wr c.nb) a w'->Q (.panic [{ v:=x,recovered:=false }]) a w')->
   Region.wanted o (yielded ops.toArray a.tmps)=true/\o.wp P a w K Q
theorem wB.eqv {n nb0:Nat} {ops:List Oper} {i:Nat} {o:Oper} {v:V} {wr:List (Nat×Blk)} {rd:List Nat} {base A:St} (h:wB P n nb0 ops i o v wr rd base) (e:Eqv base A):wB P n nb0 ops i o v wr rd A:=
 λG O C E J=>h G (λt F=>by rw [O t F,e.T]) (λb M=>by rw [C b M,e.H]) (by rw [E,e.nb]) (by rw [J,e.ro])
theorem sS.eqv {n nb0:Nat} {ops:List Oper} {i:Nat} {o:Oper} {r:Rec} {base A:St} (h:sS P n nb0 ops i o r base) (e:Eqv base A):sS P n nb0 ops i o r A:=
 λG O C E J=>h G (λt F=>by rw [O t F,e.T]) (λb M=>by rw [C b M,e.H]) (by rw [E,e.nb]) (by rw [J,e.ro])
theorem xA {α:Type} {ops:List Oper} {o:Oper} {s:St} {k:Bool->St->Option α} {z:α} (h:uE ops o s k=some z):
  ∃c u,k c u=some z/\Eqv u s/\∀p:St,(∀t∈o.looksAt ops.toArray,look p.T t=look s.T t)->∀(n:Nat) (ι0 ι:Inj) (w0:Base) (a:Act) (w:World),Inv n ι0 w0 ι p a w->
   Region.wanted o (yielded ops.toArray a.tmps)=c:=by
 unfold uE at h;split at h
 ·rename_i l;exact ⟨true,s,h,Eqv.refl s,λ_ _ _ _ _ _ _ _ _=>by simp [Region.wanted,l]⟩
 ·rename_i j c l;split at h
  case h_2=>cases h
  rename_i d i;have f:d∈o.looksAt ops.toArray:=by
   unfold Oper.looksAt;unfold gtmp at i;split at i
   ·rename_i A r;simp [l,r,i]
   ·cases i
  have again:∀x,look s.T d=some (some (.b x))->Eqv { s with T:=(d,some (V.b x))::s.T } s:=by
   intro x hx;refine ⟨λt=>?_,λ_=>rfl,rfl,rfl,rfl,rfl⟩;show look ((d,some (V.b x))::s.T) t=look s.T t;rw [aP];split
   ·rename_i e;subst e;exact hx.symm
   ·rfl
  split at h
  ·rename_i x hx;cases x
   ·refine ⟨!c,_,h,again _ hx,λp hs n ι0 ι w0 a w m=>?_⟩;obtain ⟨y,q,g⟩:=m.tmps d _ (by rw [hs d f];exact hx);simp only [VR] at g;subst g;have hy:=pG i a.tmps;rw [q] at hy;cases c<;>simp [Region.wanted,l,hy]
   ·refine ⟨c,_,h,again _ hx,λp hs n ι0 ι w0 a w m=>?_⟩;obtain ⟨y,q,g⟩:=m.tmps d _ (by rw [hs d f];exact hx);simp only [VR] at g;subst g;have hy:=pG i a.tmps;rw [q] at hy;cases c<;>simp [Region.wanted,l,hy]
  ·rename_i hx;refine ⟨false,s,h,Eqv.refl s,λp hs n ι0 ι w0 a w m=>?_⟩;obtain ⟨y,q,g⟩:=m.tmps d _ (by rw [hs d f];exact hx);simp only [VR] at g;obtain ⟨v,rfl,_⟩:=g;have hy:=pG i a.tmps;rw [q] at hy;simp [Region.wanted,l,hy]
  ·cases h
theorem uY {ops:Array Oper} {o:Oper} {s a:St} (h:∀t∈o.looksAt ops,look a.T t=look s.T t):∀x∈o.op.operands.toList,opd a.T x=opd s.T x:=by
 intro x hx;cases x with
 | tmp t=>
  have:=h t (by
   unfold Oper.looksAt;simp only [kA,List.mem_filterMap];exact .inl ⟨.tmp t,hx,rfl⟩)
  simp only [opd,this]
 | _=>rfl
theorem Iz {α:Type} {E:List Ent} (hE:∀x∈E,ek P x) {n nb0:Nat} {ops:List Oper} {masks:List Nat} {p:Nat} {k:List TE->Option α} {z:α}:∀(l:List Oper) (i:Nat) (s:St) (tr:List TE),
  nb0+8*(i+l.length)<=s.nb->runB P E n nb0 ops masks p i l s tr k=some z->
  ∃(recs:List Rec) (trf:List TE),recs.length=l.length/\k trf=some z/\(∀x∈tr,x∈trf)/\
   (∀j r,recs[j]?=some r->(⟨i+j,r.rd,keys r.wr⟩:TE)∈trf\/(r.rd=[]/\r.wr=[]))/\
   ∀(j:Nat) (o:Oper) (r:Rec),l[j]?=some o->recs[j]?=some r->r.dst=o.dst/\((getN masks (i+j)).testBit p=false->sS P n nb0 ops (i+j) o r ((recs.take j).foldl St.put s))
 | [],i,s,tr,G,h=>⟨[],tr,rfl,h,λ_ h=>h,λj r h=>by simp at h,λj o r h=>by simp at h⟩
 | o::l,i,s,tr,G,h=>by
  simp only [aS] at G;simp only [runB] at h;have more:∀(e:Rec) (d:List TE) (A:St),e.dst=o.dst->((getN masks i).testBit p=false->sS P n nb0 ops i o e s)->Eqv A (s.put e)->s.nb<=A.nb->(∀x∈tr,x∈d)->((⟨i,e.rd,keys e.wr⟩:TE)∈d\/(e.rd=[]/\e.wr=[]))->
    runB P E n nb0 ops masks p (i+1) l A d k=some z->∃(recs:List Rec) (trf:List TE),recs.length=(o::l).length/\k trf=some z/\(∀x∈tr,x∈trf)/\
   (∀j r,recs[j]?=some r->(⟨i+j,r.rd,keys r.wr⟩:TE)∈trf\/(r.rd=[]/\r.wr=[]))/\
   ∀(j:Nat) (y:Oper) (r:Rec),(o::l)[j]?=some y->recs[j]?=some r->r.dst=y.dst/\((getN masks (i+j)).testBit p=false->sS P n nb0 ops (i+j) y r ((recs.take j).foldl St.put s)):=by
   intro e d A M hl e2 hnb2 O N h;obtain ⟨recs,trf,g1,g2,X,g5,g6⟩:=Iz hE l (i+1) A d (by omega) h;refine ⟨e::recs,trf,by simp [g1],g2,λx hx=>X x (O x hx),λj r m=>?_,λj y r R m=>?_⟩
   ·cases j with
    | zero=>simp only [kb,am] at m;subst m;exact N.imp (X _) id
    | succ j=>have:=g5 j r (by simpa using m);rwa [show i+1+j=i+(j+1) by omega] at this
   ·cases j with
    | zero=>
     simp only [kb,am] at R m;subst R m;exact ⟨M,hl⟩
    | succ j=>
     obtain ⟨p1,Z⟩:=g6 j y r (by simpa using R) (by simpa using m);rw [show i+1+j=i+(j+1) by omega] at Z;exact ⟨p1,λq=>(Z q).eqv (by simpa using Eqv.puts (recs.take j) e2)⟩
  split at h
  ·rename_i B;exact more ⟨o.dst,none,[],[]⟩ tr (s.app o.dst none [] s.nb) rfl (λq=>by rw [B] at q;cases q) (Eqv.refl _) (aW _) (λ_ h=>h) (.inr ⟨rfl,rfl⟩) h
  obtain ⟨I,C,h,u,hw⟩:=xA h;have c:C.nb=s.nb:=u.nb;cases I
  ·simp only at h;split at h
   case h_2=>cases h
   rename_i M;refine more ⟨o.dst,some (.tp []),[],[]⟩ tr (C.app o.dst (some (.tp [])) [] C.nb) rfl (λ_ J L Y W q4 ι0 w0 ι a w F D K Q U=>?_) (u.put ⟨o.dst,some (.tp []),[],[]⟩) (vf c.symm) (λ_ h=>h) (.inr ⟨rfl,rfl⟩) h;rw [hw J L n ι0 ι w0 a w F];simp only [cE,aG];exact U ι _ _ (λ_ _=>rfl) (F.skip M)
  ·simp only at h;rcases AW hE (by omega) h with ⟨val,wr,rd,g,S,f⟩ | ⟨v,wr,rd,S,f⟩
   ·refine more ⟨o.dst,val,wr,rd⟩ (⟨i,rd,keys wr⟩::tr) (C.app o.dst val wr C.nb) rfl (λ_ J L Y W q4 ι0 w0 ι a w F D K Q U=>?_) (u.put ⟨o.dst,val,wr,rd⟩) (vf c.symm) (λx hx=>gP _ hx) (.inl (by simp [keys])) S;rw [hw J L n ι0 ι w0 a w F];simp only [aY];refine f J (uY λt ht=>by rw [L t ht,u.T]) (λb q=>by rw [Y b q,u.H]) (by rw [W,c]) (by rw [q4,u.ro]) ι0 w0 ι a w F (by simpa using D) K Q λV a' w' z1 z2=>U V a' w' (by simpa using z1) z2
   ·cases S
theorem yp {α:Type} {E:List Ent} (hE:∀x∈E,ek P x) {n nb0:Nat} {ops:List Oper} {masks:List Nat} {k:St->List TE->Option α} {kp:Nat->V->St->List TE->Option α} {z:α}:∀(l:List Oper) (i:Nat) (s:St) (tr:List TE),
  nb0+8*(i+l.length)<=s.nb->runD P E n nb0 ops masks kp i l s tr k=some z->
  (∃(recs:List Rec) (d:St) (trf:List TE),recs.length=l.length/\k d trf=some z/\Eqv d (recs.foldl St.put s)/\(∀x∈tr,x∈trf)/\
   (∀j r,recs[j]?=some r->(⟨i+j,r.rd,keys r.wr⟩:TE)∈trf\/(r.rd=[]/\r.wr=[]))/\
   ∀(j:Nat) (o:Oper) (r:Rec),l[j]?=some o->recs[j]?=some r->r.dst=o.dst/\sS P n nb0 ops (i+j) o r ((recs.take j).foldl St.put s))\/
  (∃(p:Nat) (op:Oper) (recs:List Rec) (d:St) (N:St) (trf:List TE) (v:V) (wr:List (Nat×Blk)) (m:Rec),recs.length=l.length/\l[p]?=some op/\recs[p]?=some m/\m.dst=op.dst/\m.wr=[]/\N=d.app none none wr d.nb/\kp (i+p) v N trf=some z/\Eqv d ((recs.take p).foldl St.put s)/\(∀x∈tr,x∈trf)/\
   wB P n nb0 ops (i+p) op v wr m.rd ((recs.take p).foldl St.put s)/\
   (∀j r,recs[j]?=some r->j≠p->(⟨i+j,r.rd,keys r.wr⟩:TE)∈trf\/(r.rd=[]/\r.wr=[]))/\
   ∀(j:Nat) (o:Oper) (r:Rec),l[j]?=some o->recs[j]?=some r->r.dst=o.dst/\((j<p\/(p<j/\(getN masks (i+j)).testBit (i+p)=false))->sS P n nb0 ops (i+j) o r ((recs.take j).foldl St.put s)))
 | [],i,s,tr,hnb,h=>.inl ⟨[],s,tr,rfl,h,Eqv.refl s,λ_ h=>h,λj r h=>by simp at h,λj o r h=>by simp at h⟩
 | o::l,i,s,tr,hnb,h=>by
  simp only [aS] at hnb;simp only [runD] at h;obtain ⟨want,D,h,A,hw⟩:=xA h;have e:D.nb=s.nb:=A.nb;have more:∀(B:Rec) (y:List TE) (S:St),B.dst=o.dst->sS P n nb0 ops i o B s->Eqv S (s.put B)->s.nb<=S.nb->(∀x∈tr,x∈y)->((⟨i,B.rd,keys B.wr⟩:TE)∈y\/(B.rd=[]/\B.wr=[]))->
    runD P E n nb0 ops masks kp (i+1) l S y k=some z->
    (∃(recs:List Rec) (d:St) (trf:List TE),recs.length=(o::l).length/\k d trf=some z/\Eqv d (recs.foldl St.put s)/\(∀x∈tr,x∈trf)/\
   (∀j r,recs[j]?=some r->(⟨i+j,r.rd,keys r.wr⟩:TE)∈trf\/(r.rd=[]/\r.wr=[]))/\
   ∀(j:Nat) (f:Oper) (r:Rec),(o::l)[j]?=some f->recs[j]?=some r->r.dst=f.dst/\sS P n nb0 ops (i+j) f r ((recs.take j).foldl St.put s))\/
    (∃(p:Nat) (op:Oper) (recs:List Rec) (d:St) (N:St) (trf:List TE) (v:V) (wr:List (Nat×Blk)) (m:Rec),recs.length=(o::l).length/\(o::l)[p]?=some op/\recs[p]?=some m/\m.dst=op.dst/\m.wr=[]/\N=d.app none none wr d.nb/\kp (i+p) v N trf=some z/\Eqv d ((recs.take p).foldl St.put s)/\(∀x∈tr,x∈trf)/\
   wB P n nb0 ops (i+p) op v wr m.rd ((recs.take p).foldl St.put s)/\
   (∀j r,recs[j]?=some r->j≠p->(⟨i+j,r.rd,keys r.wr⟩:TE)∈trf\/(r.rd=[]/\r.wr=[]))/\
   ∀(j:Nat) (f:Oper) (r:Rec),(o::l)[j]?=some f->recs[j]?=some r->r.dst=f.dst/\((j<p\/(p<j/\(getN masks (i+j)).testBit (i+p)=false))->sS P n nb0 ops (i+j) f r ((recs.take j).foldl St.put s))):=by
   intro B y S hd hl M hnb2 htr hte h;rcases yp hE l (i+1) S y (by omega) h with ⟨recs,d,trf,W,O,g3,J,Z,g6⟩ | ⟨p,op,recs,d,N,trf,v,wr,m,W,g0,gr,gd,gw,gs,O,g3,J,g7,Z,g6⟩
   ·refine .inl ⟨B::recs,d,trf,by simp [W],O,g3.trans (Eqv.puts recs M),λx hx=>J x (htr x hx),λj r c=>?_,λj f r u c=>?_⟩
    ·cases j with
     | zero=>simp only [kb,am] at c;subst c;exact hte.imp (J _) id
     | succ j=>have:=Z j r (by simpa using c);rwa [show i+1+j=i+(j+1) by omega] at this
    ·cases j with
     | zero=>
      simp only [kb,am] at u c;subst u c;exact ⟨hd,hl⟩
     | succ j=>
      obtain ⟨Y,F⟩:=g6 j f r (by simpa using u) (by simpa using c);rw [show i+1+j=i+(j+1) by omega] at F;exact ⟨Y,F.eqv (by simpa using Eqv.puts (recs.take j) M)⟩
   ·rw [show i+1+p=i+(p+1) by omega] at O g7;refine .inr ⟨p+1,op,B::recs,d,N,trf,v,wr,m,by simp [W],by simpa using g0,by simpa using gr,gd,gw,gs,O,g3.trans (by simpa using Eqv.puts (recs.take p) M),λx hx=>J x (htr x hx),g7.eqv (by simpa using Eqv.puts (recs.take p) M),λj r c U=>?_,λj f r u c=>?_⟩
    ·cases j with
     | zero=>simp only [kb,am] at c;subst c;exact hte.imp (J _) id
     | succ j=>have:=Z j r (by simpa using c) (by omega);rwa [show i+1+j=i+(j+1) by omega] at this
    ·cases j with
     | zero=>
      simp only [kb,am] at u c;subst u c;exact ⟨hd,λ_=>hl⟩
     | succ j=>
      obtain ⟨Y,F⟩:=g6 j f r (by simpa using u) (by simpa using c);rw [show i+1+j=i+(j+1) by omega,show i+1+p=i+(p+1) by omega] at F;exact ⟨Y,λhc=>(F (hc.imp (λh=>by omega) λh=>⟨by omega,h.2⟩)).eqv (by simpa using Eqv.puts (recs.take j) M)⟩
  cases want
  ·simp only at h;split at h
   case h_2=>cases h
   rename_i hd;refine more ⟨o.dst,some (.tp []),[],[]⟩ tr (D.app o.dst (some (.tp [])) [] D.nb) rfl (λL I X R q4 ι0 w0 ι a w G C K Q hK=>?_) (A.put ⟨o.dst,some (.tp []),[],[]⟩) (vf e.symm) (λ_ h=>h) (.inr ⟨rfl,rfl⟩) h;rw [hw L I n ι0 ι w0 a w G];simp only [cE,aG];exact hK ι _ _ (λ_ _=>rfl) (G.skip hd)
  ·simp only at h;rcases AW hE (by omega) h with ⟨val,wr,rd,g,hk,q⟩ | ⟨v,wr,rd,hk,q⟩
   ·refine more ⟨o.dst,val,wr,rd⟩ (⟨i,rd,keys wr⟩::tr) (D.app o.dst val wr D.nb) rfl (λL I X R q4 ι0 w0 ι a w G C K Q hK=>?_) (A.put ⟨o.dst,val,wr,rd⟩) (vf e.symm) (λx hx=>gP _ hx) (.inl (by simp [keys])) hk;rw [hw L I n ι0 ι w0 a w G];simp only [aY];refine q L (uY λt ht=>by rw [I t ht,A.T]) (λb hb=>by rw [X b hb,A.H]) (by rw [R,e]) (by rw [q4,A.ro]) ι0 w0 ι a w G (by simpa using C) K Q λι' a' w' z1 z2=>hK ι' a' w' (by simpa using z1) z2
   ·obtain ⟨recs,trf,W,O,J,Z,g6⟩:=Iz hE l (i+1) _ tr (by simp only [St.app];omega) hk;have M:Eqv (D.app o.dst none [] D.nb) (s.put ⟨o.dst,none,[],rd⟩):=A.put ⟨o.dst,none,[],rd⟩;refine .inr ⟨0,o,⟨o.dst,none,[],rd⟩::recs,D,_,trf,v,wr,⟨o.dst,none,[],rd⟩,by simp [W],rfl,rfl,rfl,rfl,rfl,O,A,J,λL I X R q4 ι0 w0 ι a w G C K Q hK=>?_,λj r c U=>?_,λj f r u c=>?_⟩
    ·simp only [mI,Dp] at I X R q4;exact ⟨hw L I n ι0 ι w0 a w G,q L (uY λt ht=>by rw [I t ht,A.T]) (λb hb=>by rw [X b hb,A.H]) (by rw [R,e]) (by rw [q4,A.ro]) ι0 w0 ι a w G (by simpa using C) K Q hK⟩
    ·cases j with
     | zero=>exact absurd rfl U
     | succ j=>have:=Z j r (by simpa using c);rwa [show i+1+j=i+(j+1) by omega] at this
    ·cases j with
     | zero=>
      simp only [kb,am] at u c;subst u c;exact ⟨rfl,λh=>by omega⟩
     | succ j=>
      obtain ⟨Y,F⟩:=g6 j f r (by simpa using u) (by simpa using c);rw [show i+1+j=i+(j+1) by omega] at F;refine ⟨Y,λhc=>(F ?_).eqv (by simpa using Eqv.puts (recs.take j) M)⟩;rcases hc with hc | hc
      ·omega
      ·exact hc.2
def Down (ops:List Oper) (D:Nat->Bool):Prop:=∀j o e,ops[j]?=some o->D j=true->e∈o.after.toList->Region.binds .any e=true->D e.on=true
def Must (ops:List Oper) (i j:Nat):Prop:=∀D,Down ops D->D j=true->D i=true
def Dn (a:Array Bool):Nat->Bool:=λi=>a.getD i false
structure DrawFacts (P:Program) (n nb0:Nat) (ops:List Oper) (recs:List Rec) (s0:St) (live:Nat->Prop):Prop where
 len:recs.length=ops.length
 nb:s0.nb=nb0+8*ops.length
 loc:∀(j:Nat) (o:Oper) (r:Rec),ops[j]?=some o->recs[j]?=some r->(∀t,r.dst=some t->o.dst=some t)/\(live j->sS P n nb0 ops j o r (appD 0 recs (λm=>decide (m<j)) s0))
 down:∀(j:Nat) (o:Oper) (e:Edge),ops[j]?=some o->e∈o.after.toList->Region.binds .any e=true->e.on<j
 apart:∀(i j:Nat) (x y:Oper),i<j->ops[i]?=some x->ops[j]?=some y->Must ops i j\/x.apart ops.toArray y=true
 blk:∀(i j:Nat) (x y:Rec),i<j->recs[i]?=some x->recs[j]?=some y->Must ops i j\/((∀b∈keys x.wr,b∉y.rd/\b∉keys y.wr)/\∀b∈x.rd,b∉keys y.wr)
theorem rt {ops:List Oper} {a:Array Bool} {i:Nat} (hs:a.size=ops.length) (h:i∈Region.ready .any ops.toArray a):
  ∃o,ops[i]?=some o/\i<ops.length/\Dn a i=false/\∀e∈o.after.toList,Region.binds .any e=true->Dn a e.on=true:=by
 unfold Region.ready at h;simp only [kw,jk,ay,vU] at h;obtain ⟨f,b,c⟩:=h;have d:ops[i]?=some ops[i]:=by simp [f]
 refine ⟨ops[i],d,f,?_,λe g j=>?_⟩
 ·unfold Dn;have:i<a.size:=by omega
  simp only [oS,RF this,yv] at b ⊢;simpa using b
 ·simp only [List.getElem?_toArray,d,ee,yv] at c;have:=(Array.all_eq_true'.1 c) e (by simpa using g);simp only [j,eG,vC] at this;exact this
theorem xK {ops:List Oper} {a:Array Bool} {i:Nat} {o:Oper} (hs:a.size=ops.length) (b:ops[i]?=some o) (d:Dn a i=false)
  (f:∀e∈o.after.toList,Region.binds .any e=true->Dn a e.on=true):i∈Region.ready .any ops.toArray a:=by
 have hi:i<ops.length:=by
  rcases aH i ops.length with c | c
  ·exact c
  ·rw [eF c] at b;cases b
 unfold Region.ready;simp only [kw,jk,ay,vU];refine ⟨hi,?_,?_⟩
 ·have:i<a.size:=by omega
  unfold Dn at d;simp only [oS,RF this,yv] at d ⊢;simp [d]
 ·simp only [List.getElem?_toArray,b,ee,yv];refine Array.all_eq_true'.2 λe g=>?_;cases h:Region.binds .any e with
  | false=>rfl
  | true=>
   have:=f e (by simpa using g) h;unfold Dn at this;simpa using this
theorem wE {a:Array Bool} {i:Nat} (h:i<a.size) (j:Nat):Dn (a.setIfInBounds i true) j=if j=i then true else Dn a j:=by
 unfold Dn;simp only [oS];rw [Oe];by_cases b:i=j
 ·subst b;simp [h]
 ·simp [b,show ¬j=i from λe=>b e.symm]
theorem Down.add {ops:List Oper} {D:Nat->Bool} (h:Down ops D) {i:Nat} {o:Oper} (O:ops[i]?=some o) (J:∀e∈o.after.toList,Region.binds .any e=true->D e.on=true):
  Down ops λj=>if j=i then true else D j:=by
 intro j M e C F E G;show (if e.on=i then true else D e.on)=true;by_cases A:j=i
 ·subst A;rw [O] at C;cases C;have:=J e E G;split
  ·rfl
  ·exact this
 ·simp only [A,aG] at F;have:=h j M e C F E G;split
  ·rfl
  ·exact this
theorem Must.in {ops:List Oper} {D:Nat->Bool} (h:Down ops D) {i k:Nat} {o:Oper} (C:ops[i]?=some o) (F:∀e∈o.after.toList,Region.binds .any e=true->D e.on=true)
  (E:Must ops k i) (A:k≠i):D k=true:=by
 have:=E _ (h.add C F) (by simp);simpa [A] using this
section
variable {n nb0:Nat} {ops:List Oper} {recs:List Rec} {s0:St} {live:Nat->Prop} (F:DrawFacts P n nb0 ops recs s0 live)
include F
theorem vh {i:Nat} {o:Oper} (h:ops[i]?=some o):∃r,recs[i]?=some r:=by
 have hi:i<ops.length:=by
  rcases aH i ops.length with a | a
  ·exact a
  ·rw [eF a] at h;cases h
 exact ⟨recs[i]'(by rw [F.len];exact hi),by simp [F.len,hi]⟩
theorem uk {i:Nat} {r:Rec} (h:recs[i]?=some r):∃o,ops[i]?=some o:=by
 have hi:i<recs.length:=by
  rcases aH i recs.length with a | a
  ·exact a
  ·rw [eF a] at h;cases h
 exact ⟨ops[i]'(by rw [<-F.len];exact hi),by simp [F.len▸hi]⟩
theorem yf {D:Nat->Bool} (u:Down ops D) {i:Nat} {o:Oper} (h:ops[i]?=some o) (s:D i=false) (w:∀e∈o.after.toList,Region.binds .any e=true->D e.on=true)
  {t:Nat} (q:t∈o.looksAt ops.toArray):look (appD 0 recs D s0).T t=look (appD 0 recs (λm=>decide (m<i)) s0).T t:=by
 rw [xh,xh];refine qz recs 0 _ _ t _ λj r v x=>?_;simp only [cV];obtain ⟨g,b⟩:=uk F v;have a:=((F.loc j g r b v).1 t x).symm;rcases C2 j i with d | f | l
 ·have n:D j=true:=by
   rcases F.apart j i g o d b h with k | c
   ·exact k.in u h w (by omega)
   ·exact absurd q ((CP c).1 t a.symm)
  rw [n];simp [d]
 ·subst f;simp [s]
 ·have n:D j=false:=by
   rcases F.apart i j o g l h b with k | c
   ·cases p:D j with
    | false=>rfl
    | true=>have:=k D u p;rw [s] at this;cases this
   ·exact absurd q ((CP c).2.2 t a.symm)
  rw [n];simp;omega
theorem yL {D:Nat->Bool} (s:Down ops D) {i:Nat} {o:Oper} {r:Rec} (w:ops[i]?=some o) (q:recs[i]?=some r) (p:D i=false)
  (v:∀e∈o.after.toList,Region.binds .any e=true->D e.on=true) {b:Nat} (u:b∈r.rd):look (appD 0 recs D s0).H b=look (appD 0 recs (λm=>decide (m<i)) s0).H b:=by
 rw [uz,uz];refine nY recs 0 _ _ b _ λj n t l=>?_;simp only [cV];rcases C2 j i with c | d | g
 ·have h:D j=true:=by
   rcases F.blk j i n r c t q with f | a
   ·exact f.in s w v (by omega)
   ·exact absurd u (a.1 b l).1
  rw [h];simp [c]
 ·subst d;simp [p]
 ·have h:D j=false:=by
   rcases F.blk i j r n g q t with f | a
   ·cases k:D j with
    | false=>rfl
    | true=>have:=f D s k;rw [p] at this;cases this
   ·exact absurd l (a.2 b u)
  rw [h];simp;omega
theorem yw {D:Nat->Bool} (C:Down ops D) {i:Nat} {o:Oper} {r:Rec} (A:ops[i]?=some o) (f:recs[i]?=some r) (z:D i=false):
  Eqv ((appD 0 recs D s0).put r) (appD 0 recs (λj=>if j=i then true else D j) s0):=by
 have h:=(F.loc i o r A f).1;refine ⟨λt=>?_,λb=>?_,by rw [Rb,kz,kz],by show (appD 0 recs D s0).lo=_;rw [um,um],by show (appD 0 recs D s0).ro=_;rw [gZ,gZ],by show (appD 0 recs D s0).rb=_;rw [wb,wb]⟩
 ·rw [LH,xh,xh];by_cases g:r.dst=some t
  ·rw [ad g];symm;refine Df recs 0 i _ t _ r f (by simp) g λk l u c q=>?_;simp only [cV,show ¬k=i by omega,aG];obtain ⟨ok,m⟩:=uk F c;have y:=(F.loc k ok l m c).1;rcases F.apart i k o ok u A m with x | d
   ·cases e:D k with
    | false=>rfl
    | true=>have:=x D C e;rw [z] at this;cases this
   ·exact absurd (y t q) ((CP d).2.1 t (h t g))
  ·rw [ab g];refine qz recs 0 _ _ t _ λj l n w=>?_;simp only [cV];by_cases a:j=i
   ·subst a;rw [f] at n;cases n;exact absurd w g
   ·simp [a]
 ·rw [K9,uz,uz];by_cases p:b∈keys r.wr
  ·obtain ⟨v,B⟩:=pM p;rw [B,Option.some_or];symm;rw [<-B];refine Ez recs 0 i _ b _ r f (by simp) p λk l u c s=>?_;simp only [cV,show ¬k=i by omega,aG];rcases F.blk i k r l u f c with x | d
   ·cases e:D k with
    | false=>rfl
    | true=>have:=x D C e;rw [z] at this;cases this
   ·exact absurd s (d.1 b p).2
  ·rw [oO p,Bt];refine nY recs 0 _ _ b _ λj l n s=>?_;simp only [cV];by_cases a:j=i
   ·subst a;rw [f] at n;cases n;exact absurd s p
   ·simp [a]
theorem zn {kk:Nat} (B:∀j,kk<=j->j<ops.length->live j) {ι0:Inj} {w0:Base} {Q:Exit->Act->World->Prop} (V:∀ι a w,Inv n ι0 w0 ι (recs.foldl St.put s0) a w->Q .normal a w):
  ∀(fuel:Nat) (c:Array Bool) (ι:Inj) (a:Act) (w:World),c.size=ops.length->(∀j,j<kk->Dn c j=true)->Down ops (Dn c)->Inv n ι0 w0 ι (appD 0 recs (Dn c) s0) a w->
   (∀i,i<ops.length->Dn c i=false->∀b,nb0+8*i<=b->b<nb0+8*i+8->ι b=none)->((List.range ops.length).filter λi=>!Dn c i).length<=fuel->
   wpAny P .any ops.toArray Q fuel c a w:=by
 have A:∀(c:Array Bool) (ι:Inj) (a:Act) (w:World),c.size=ops.length->Inv n ι0 w0 ι (appD 0 recs (Dn c) s0) a w->Region.ready .any ops.toArray c=[]->Q .normal a w:=by
  intro c ι a w hs x p;have D:∀j,j<ops.length->Dn c j=true:=by
   intro j
   induction j using Nat.strongRecOn with
   | _ j ih=>
    intro v;cases I:Dn c j with
    | true=>rfl
    | false=>
     have f:ops[j]?=some ops[j]:=by simp [v]
     have O:=xK hs f I λe N G=>ih e.on (F.down j _ e f N G) (by have:=F.down j _ e f N G;omega);rw [p] at O;cases O
  rw [zg recs 0 (Dn c) s0 λj v=>by simpa using D j (by rw [<-F.len];exact v)] at x;exact V ι a w x
 intro fuel
 induction fuel with
 | zero=>
  intro c ι a w hs s C x u hc;have p:Region.ready .any ops.toArray c=[]:=by
   rw [List.eq_nil_iff_forall_not_mem];intro i hi;obtain ⟨o,f,g,m,_⟩:=rt hs hi;have:i∈(List.range ops.length).filter λi=>!Dn c i:=by simp [g,m]
   have:=BY this;omega
  exact ⟨p,A c ι a w hs x p⟩
 | succ fuel ih=>
  intro c ι a w hs s C x u hc;refine ⟨A c ι a w hs x,λi hi=>?_⟩;obtain ⟨o,f,g,m,H⟩:=rt hs hi;obtain ⟨r,p⟩:=vh F f;have y:=(F.loc i o r f p).2 (B i (by rcases aH i kk with h | h;(· have:=s i h;rw [m] at this;cases this);exact h) g);have d:Dn (c.setIfInBounds i true)=λj=>if j=i then true else Dn c j:=by
   funext j;exact wE (by omega) j
  have E:=y (appD 0 recs (Dn c) s0) (λt R=>yf F C f m H R) (λb G=>yL F C f p m H G) (by rw [kz,kz]) (by rw [gZ,gZ]) ι0 w0 ι a w x (u i g m)
   (wpAny P .any ops.toArray Q fuel (c.setIfInBounds i true)) Q λM S w' T U=>by
    refine ih _ M S w' (by simpa using hs) (λj v=>by rw [d];simp only;split;(· rfl);exact s j v) (by rw [d];exact C.add f H) (by rw [d];exact U.eqv (yw F C f p m)) (λj v l b K J=>?_) ?_
    ·rw [d] at l;by_cases k:j=i
     ·simp [k] at l
     ·simp only [k,aG] at l;rw [T b (by omega)];exact u j v l b K J
    ·have:((List.range ops.length).filter λj=>!Dn (c.setIfInBounds i true) j).length<((List.range ops.length).filter λj=>!Dn c j).length:=by
      rw [d];have z:((List.range ops.length).filter λj=>!(if j=i then true else Dn c j))=((List.range ops.length).filter λj=>!Dn c j).filter λj=>decide (j≠i):=by
       rw [ED];congr 1;funext j;by_cases k:j=i<;>simp [k]
      rw [z];refine Dw.2 ⟨i,by simp [g,m],by simp⟩
     omega
  unfold wpOp;have L:ops.toArray[i]?=some o:=by simpa using f
  rw [L];simp only;split
  ·rename_i q;rw [ad q] at E;exact .inl E
  ·rename_i q;rw [ab q] at E;exact E
theorem Ku {lim kk:Nat} (E:lim<ops.length) (g:∀j,kk<=j->j<lim->live j/\Must ops j lim) (z:∀j,lim<j->j<ops.length->Must ops lim j) {ι0:Inj} {w0:Base} {Q:Exit->Act->World->Prop}
  (Z:∀(fuel:Nat) (c:Array Bool) (ι:Inj) (a:Act) (w:World),c.size=ops.length->(∀j,j<lim->Dn c j=true)->Dn c lim=false->Down ops (Dn c)->Down ops (Dn (c.setIfInBounds lim true))->
   Inv n ι0 w0 ι (appD 0 recs (Dn c) s0) a w->((List.range ops.length).filter λi=>!Dn c i).length<=fuel+1->wpOp P ops.toArray Q lim (wpAny P .any ops.toArray Q fuel (c.setIfInBounds lim true)) a w):
  ∀(fuel:Nat) (c:Array Bool) (ι:Inj) (a:Act) (w:World),c.size=ops.length->(∀j,j<kk->Dn c j=true)->Down ops (Dn c)->Dn c lim=false->Inv n ι0 w0 ι (appD 0 recs (Dn c) s0) a w->
   (∀i,i<ops.length->Dn c i=false->∀b,nb0+8*i<=b->b<nb0+8*i+8->ι b=none)->((List.range ops.length).filter λi=>!Dn c i).length<=fuel->
   wpAny P .any ops.toArray Q fuel c a w:=by
 have S:∀(c:Array Bool),c.size=ops.length->Dn c lim=false->Region.ready .any ops.toArray c=[]->False:=by
  intro c hs hp y;have G:∀j,j<ops.length->Dn c j=true:=by
   intro j
   induction j using Nat.strongRecOn with
   | _ j ih=>
    intro x;cases K:Dn c j with
    | true=>rfl
    | false=>
     have f:ops[j]?=some ops[j]:=by simp [x]
     have U:=xK hs f K λe T I=>ih e.on (F.down j _ e f T I) (by have:=F.down j _ e f T I;omega);rw [y] at U;cases U
  rw [G lim E] at hp;cases hp
 intro fuel
 induction fuel with
 | zero=>
  intro c ι a w hs k p hp M u hc;have:lim∈(List.range ops.length).filter λi=>!Dn c i:=by simp [E,hp]
  have:=BY this;omega
 | succ fuel ih=>
  intro c ι a w hs k p hp M u hc;refine ⟨λy=>(S c hs hp y).elim,λi hi=>?_⟩;obtain ⟨o,f,q,v,A⟩:=rt hs hi;obtain ⟨r,y⟩:=vh F f;have d:Dn (c.setIfInBounds i true)=λj=>if j=i then true else Dn c j:=by
   funext j;exact wE (by omega) j
  by_cases C:i=lim
  ·subst C;refine Z fuel c ι a w hs (λj x=>?_) v p (by rw [d];exact p.add f A) M hc;rcases aH j kk with h | h
   ·exact k j h
   ·exact (g j h x).2.in p f A (by omega)
  have O:ops.toArray[i]?=some o:=by simpa using f
  unfold wpOp;rw [O];simp only;have hlt':i<lim:=by
   rcases aH i lim with h | h
   ·exact h
   ·have:=(z i (by omega) q).in p f A (λe=>C e.symm);rw [hp] at this;cases this
  have J:kk<=i:=by
   rcases aH i kk with h | h
   ·have:=k i h;rw [v] at this;cases this
   ·exact h
  have B:=(F.loc i o r f y).2 (g i J hlt').1
  have H:=B (appD 0 recs (Dn c) s0) (λt V=>yf F p f v A V) (λb I=>yL F p f y v A I) (by rw [kz,kz]) (by rw [gZ,gZ]) ι0 w0 ι a w M (u i q v)
   (wpAny P .any ops.toArray Q fuel (c.setIfInBounds i true)) Q λR W w' X Y=>by
    refine ih _ R W w' (by simpa using hs) (λj x=>by rw [d];simp only;split;(· rfl);exact k j x) (by rw [d];exact p.add f A) (by rw [d];simp only [show ¬lim=i by omega,aG];exact hp) (by rw [d];exact Y.eqv (yw F p f y v)) (λj x m b N L=>?_) ?_
    ·rw [d] at m;by_cases l:j=i
     ·simp [l] at m
     ·simp only [l,aG] at m;rw [X b (by omega)];exact u j x m b N L
    ·have:((List.range ops.length).filter λj=>!Dn (c.setIfInBounds i true) j).length<((List.range ops.length).filter λj=>!Dn c j).length:=by
      rw [d];have D:((List.range ops.length).filter λj=>!(if j=i then true else Dn c j))=((List.range ops.length).filter λj=>!Dn c j).filter λj=>decide (j≠i):=by
       rw [ED];congr 1;funext j;by_cases l:j=i<;>simp [l]
      rw [D];refine Dw.2 ⟨i,by simp [q,v],by simp⟩
     omega
  split
  ·rename_i s;rw [ad s] at H;exact .inl H
  ·rename_i s;rw [ab s] at H;exact H
theorem Lj {lim:Nat} {ι0:Inj} {w0:Base} {Q:Exit->Act->World->Prop} {O:Oper} {pr:Rec} {v:V} {wr:List (Nat×Blk)} (g:ops[lim]?=some O) (H:recs[lim]?=some pr)
  (Y:wB P n nb0 ops lim O v wr pr.rd (appD 0 recs (λm=>decide (m<lim)) s0))
  (C:∀j,j<ops.length->j≠lim->live j\/Must ops lim j)
  (hQ:∀D,Down ops D->(∀e∈O.after.toList,Region.binds .any e=true->D e.on=true)->D lim=false->∀ι x a w,VR ι v x->Inv n ι0 w0 ι ((appD 0 recs D s0).app none none wr s0.nb) a w->Q (.panic [{ v:=x,recovered:=false }]) a w):
  ∀(fuel:Nat) (c:Array Bool) (ι:Inj) (a:Act) (w:World),c.size=ops.length->Down ops (Dn c)->Dn c lim=false->Inv n ι0 w0 ι (appD 0 recs (Dn c) s0) a w->
   (∀i,i<ops.length->Dn c i=false->∀b,nb0+8*i<=b->b<nb0+8*i+8->ι b=none)->((List.range ops.length).filter λi=>!Dn c i).length<=fuel->
   wpAny P .any ops.toArray Q fuel c a w:=by
 have J:lim<ops.length:=by
  rcases aH lim ops.length with h' | h'
  ·exact h'
  ·rw [eF h'] at g;cases g
 have fin:∀(c:Array Bool),c.size=ops.length->Dn c lim=false->Region.ready .any ops.toArray c=[]->False:=by
  intro c hs hp s;have K:∀j,j<ops.length->Dn c j=true:=by
   intro j
   induction j using Nat.strongRecOn with
   | _ j ih=>
    intro W;cases T:Dn c j with
    | true=>rfl
    | false=>
     have f:ops[j]?=some ops[j]:=by simp [W]
     have N:=xK hs f T λe he E=>ih e.on (F.down j _ e f he E) (by have:=F.down j _ e f he E;omega);rw [s] at N;cases N
  rw [K lim J] at hp;cases hp
 intro fuel
 induction fuel with
 | zero=>
  intro c ι a w hs u hp X l hc;have:lim∈(List.range ops.length).filter λi=>!Dn c i:=by simp [J,hp]
  have:=BY this;omega
 | succ fuel ih=>
  intro c ι a w hs u hp X l hc;refine ⟨λs=>(fin c hs hp s).elim,λi hi=>?_⟩;obtain ⟨o,f,h,p,y⟩:=rt hs hi;obtain ⟨r,s⟩:=vh F f;have hoa:ops.toArray[i]?=some o:=by simpa using f
  unfold wpOp;rw [hoa];simp only;by_cases A:i=lim
  case neg=>
   rcases C i h A with hlv | N
   case inr=>
    have:=N.in u f y (λe=>A e.symm);rw [hp] at this;cases this
   have G:=(F.loc i o r f s).2 hlv;have d:Dn (c.setIfInBounds i true)=λj=>if j=i then true else Dn c j:=by
    funext j;exact wE (by omega) j
   have L:=G (appD 0 recs (Dn c) s0) (λt R=>yf F u f p y R) (λb E=>yL F u f s p y E) (by rw [kz,kz]) (by rw [gZ,gZ]) ι0 w0 ι a w X (l i h p)
    (wpAny P .any ops.toArray Q fuel (c.setIfInBounds i true)) Q λB a' w' S M=>by
     refine ih _ B a' w' (by simpa using hs) (by rw [d];exact u.add f y) (by rw [d];simp only [show ¬lim=i by omega,aG];exact hp) (by rw [d];exact M.eqv (yw F u f s p)) (λj W q b Z U=>?_) ?_
     ·rw [d] at q;by_cases k:j=i
      ·simp [k] at q
      ·simp only [k,aG] at q;rw [S b (by omega)];exact l j W q b Z U
     ·have:((List.range ops.length).filter λj=>!Dn (c.setIfInBounds i true) j).length<((List.range ops.length).filter λj=>!Dn c j).length:=by
       rw [d];have I:((List.range ops.length).filter λj=>!(if j=i then true else Dn c j))=((List.range ops.length).filter λj=>!Dn c j).filter λj=>decide (j≠i):=by
        rw [ED];congr 1;funext j;by_cases k:j=i<;>simp [k]
       rw [I];refine Dw.2 ⟨i,by simp [h,p],by simp⟩
      omega
   split
   ·rename_i z;rw [ad z] at L;exact .inl L
   ·rename_i z;rw [ab z] at L;exact L
  case pos=>
   subst A;rw [g] at f;cases f;rw [H] at s;cases s
   obtain ⟨q1,q2⟩:=Y (appD 0 recs (Dn c) s0) (λt R=>yf F u g p y R) (λb E=>yL F u g H p y E) (by rw [kz,kz]) (by rw [gZ,gZ]) ι0 w0 ι a w X (l i h p)
    (wpAny P .any ops.toArray Q fuel (c.setIfInBounds i true)) Q λB x w' S M=>hQ _ u y p B x a w' S (by rw [kz] at M;exact M)
   rw [ad q1];exact .inl q2
end
theorem zX:∀{l:List Nat} {j:Nat},l.length<=j->getN l j=0
 | [],_,_=>rfl
 | _::_,0,h=>by simp at h
 | _::l,j+1,h=>zX (l:=l) (by simpa using h)
theorem qd:∀{l m:List Nat} {j:Nat},j<l.length->getN (l++m) j=getN l j
 | [],_,_,h=>by simp at h
 | _::_,_,0,_=>rfl
 | _::l,m,j+1,h=>qd (l:=l) (m:=m) (by simpa using h)
theorem pX:∀(l:List Nat) (x:Nat),getN (l++[x]) l.length=x
 | [],_=>rfl
 | _::l,x=>pX l x
theorem qp (b:List Nat):∀(l:List Edge) (s i:Nat),(Aa b l s).testBit i=true->s.testBit i=true\/∃e∈l,Region.binds .any e=true/\(e.on=i\/(getN b e.on).testBit i=true)
 | [],s,i,h=>.inl h
 | e::l,s,i,h=>by
  simp only [Aa] at h;split at h
  ·rename_i g;rcases qp b l _ i h with a | ⟨d,c,f⟩
   ·simp only [Nat.testBit_or,gC] at a;rcases a with (a | a) | a
    ·exact .inl a
    ·refine .inr ⟨e,by simp,g,.inl ?_⟩;rw [Nat.testBit_two_pow] at a;simpa using a
    ·exact .inr ⟨e,by simp,g,.inr a⟩
   ·exact .inr ⟨d,gP _ c,f⟩
  ·rcases qp b l _ i h with a | ⟨d,c,f⟩
   ·exact .inl a
   ·exact .inr ⟨d,gP _ c,f⟩
theorem nq (ops:List Oper):∀(r:List Oper) (a:List Nat),(∀j,r[j]?=ops[a.length+j]?)->(∀j i,(getN a j).testBit i=true->Must ops i j)->
  ∀j i,(getN (jM r a) j).testBit i=true->Must ops i j
 | [],a,_,h=>h
 | o::r,a,n,h=>by
  simp only [jM];refine nq ops r _ (λj=>by have:=n (j+1);simp only [Ed] at this;rw [this];simp;congr 1;omega) λj i b=>?_;rcases C2 j a.length with f | d | s
  ·rw [qd f] at b;exact h j i b
  ·subst d;rw [pX] at b;have p:ops[a.length]?=some o:=by have:=n 0;simpa using this.symm
   rcases qp a _ _ _ b with c | ⟨e,q,g,c⟩
   ·simp at c
   ·intro D m k;have l:=m a.length o e p k q g;rcases c with rfl | c
    ·exact l
    ·exact h e.on i c D m l
  ·rw [zX (by simp;omega)] at b;simp at b
theorem iO:∀(l:List Oper) (i:Nat),oV i l=true->∀(j:Nat) (o:Oper) (e:Edge),l[j]?=some o->e∈o.after.toList->Region.binds .any e=true->e.on<i+j
 | [],_,_,_,_,_,h,_,_=>by simp at h
 | o::l,i,h,j,d,e,a,c,b=>by
  simp only [oV,ay,cr] at h;cases j with
  | zero=>
   simp only [kb,am] at a;subst a;have:=h.1 e c;simp only [b,eG,vC] at this;exact aD this
  | succ j=>have:=iO l (i+1) h.2 j d e (by simpa using a) c b;omega
theorem qf {ops:Array Oper} {o:Oper} {a:Nat}:∀(l:List Oper) (i:Nat),rq ops o a i l=true->∀(j:Nat) (p:Oper),l[j]?=some p->a.testBit (i+j)=true\/p.apart ops o=true
 | [],_,_,_,_,h=>by simp at h
 | q::l,i,h,j,p,b=>by
  simp only [rq,ay,gC] at h;cases j with
  | zero=>simp only [kb,am] at b;subst b;exact h.1
  | succ j=>have:=qf l (i+1) h.2 j p (by simpa using b);rwa [show i+1+j=i+(j+1) by omega] at this
theorem lL {ops:Array Oper} {masks:List Nat}:∀(l a:List Oper),ra ops masks a.length a l=true->∀(i j:Nat) (x y:Oper),i<a.length+j->(a++l)[i]?=some x->l[j]?=some y->
  (getN masks (a.length+j)).testBit i=true\/x.apart ops y=true
 | [],_,_,_,_,_,_,_,_,h=>by simp at h
 | o::l,a,h,i,j,x,y,hi,hx,hy=>by
  simp only [ra,ay] at h;cases j with
  | zero=>
   simp only [kb,am] at hy;subst hy;have:=qf a 0 h.1 i x (by rw [mi (by simpa using hi)] at hx;exact hx);simpa using this
  | succ j=>
   have b:=h.2;rw [show a.length+1=(a++[o]).length by simp] at b;have:=lL l (a++[o]) b i j x y (by simp;omega) (by simpa using hx) (by simpa using hy);rwa [show (a++[o]).length+j=a.length+(j+1) by simp;omega] at this
theorem pf {masks:List Nat}:∀{tr:List TE},nE masks tr=true->∀x∈tr,∀y∈tr,x.i<y.i->vW masks x y=true\/vW masks y x=true
 | [],_,x,hx,_,_,_=>by cases hx
 | z::l,h,x,hx,y,hy,c=>by
  simp only [nE,ay,cr] at h;rcases cA.1 hx with b | b
  ·subst b;rcases cA.1 hy with a | a
   ·subst a;omega
   ·exact .inl (h.1 y a)
  ·rcases cA.1 hy with a | a
   ·subst a;exact .inr (h.1 x b)
   ·exact pf h.2 x b y a c
theorem vS {x y:TE} (h:On x y=false):(∀b∈x.ws,b∉y.rd/\b∉y.ws)/\∀b∈x.rd,b∉y.ws:=by
 simp only [On,Dq,qY,gC,not_or,List.contains_iff_mem] at h;exact ⟨λb a=>h.1 b a,λb a=>h.2 b a⟩
theorem Aj {masks:List Nat} {x y:TE} (h:vW masks x y=true\/vW masks y x=true) (e:x.i<y.i):
  (getN masks y.i).testBit x.i=true\/((∀b∈x.ws,b∉y.rd/\b∉y.ws)/\∀b∈x.rd,b∉y.ws):=by
 have k:Nat.blt x.i y.i=true:=cU e;have f:Nat.blt y.i x.i=false:=by
  cases j:Nat.blt y.i x.i with
  | false=>rfl
  | true=>have:y.i<x.i:=aD j;omega
 rcases h with h | h
 ·simp only [vW,k,aj,gC,kn] at h;exact h.imp id vS
 ·simp only [vW,f,ae,gC,kn] at h;refine h.imp id λh=>?_;obtain ⟨a,b⟩:=vS h;exact ⟨λc hc=>⟨λg=>b c g hc,λd=>(a c d).2 hc⟩,λc hc d=>(a c d).1 hc⟩
theorem sC:∀(ops:List Oper) {T:List (Nat×Option V)} (t:Nat) (v:V),look (FN ops T) t=some (some v)->(∀o∈ops,o.dst≠some t)/\look T t=some (some v)
 | [],T,t,v,h=>⟨by simp,h⟩
 | o::l,T,t,v,h=>by
  simp only [FN] at h;split at h
  ·rename_i d b;rw [aP] at h;split at h
   ·cases h
   ·rename_i c;obtain ⟨f,a⟩:=sC l t v h;refine ⟨λx hx=>?_,a⟩;rcases cA.1 hx with rfl | hx
    ·rw [b];intro e;cases e;exact c rfl
    ·exact f x hx
  ·rename_i b;obtain ⟨f,a⟩:=sC l t v h;refine ⟨λx hx=>?_,a⟩;rcases cA.1 hx with rfl | hx
   ·rw [b];intro e;cases e
   ·exact f x hx
theorem FH {α:Type} {E:List Ent} (hE:∀x∈E,ek P x) {n:Nat} {ops:List Oper} {s:St} {k:Ex->St->Option α} {z:α} (h:Bl P E n ops s k=some z) (id:Nat):
  SemC P n (.region id ops.toArray true) s λex s'=>k ex s'=some z:=by
 intro ι0 w0 ι a w hI;unfold Bl at h;split at h
 case h_2=>cases h
 rename_i hok;simp only [ay,E5] at hok;obtain ⟨⟨hb1,hb2,_⟩,S⟩:=hok;have g:=nq ops ops [] (by simp) (λj i u=>by simp [getN] at u);have hI1:Inv n ι0 w0 ι { s with nb:=s.nb+8*ops.length } a { w with drawn:=w.drawn+1 }:=by
  have d:=hI.drawn (w.drawn+1);exact ⟨d.size,d.defers,d.tmps,⟨d.mem.inj,λb r u=>by have:=d.mem.low b r u;simp only;omega,d.mem.dom,d.mem.blk⟩,d.ext,d.new,d.fr,d.low,d.fz,d.gl⟩
 have L:∀i,Dn (Array.replicate ops.toArray.size false) i=false:=by
  intro i;unfold Dn;simp only [oS,QO];split<;>rfl
 have hno:∀(l:List Rec) (i:Nat) (D:Nat->Bool) (s:St),(∀j,D j=false)->appD i l D s=s:=by
  intro l
  induction l with
  | nil=>intros;rfl
  | cons r l ih=>intro i D s hD;simp only [appD,hD i,cE,aG];exact ih _ D s hD
 have C:∀(trf:List TE) (x y:Rec) (i j:Nat),nE (jM ops []) (trf.filter λx=>!(x.rd.isEmpty&&x.ws.isEmpty))=true->i<j->((⟨0+i,x.rd,keys x.wr⟩:TE)∈trf\/(x.rd=[]/\x.wr=[]))->((⟨0+j,y.rd,keys y.wr⟩:TE)∈trf\/(y.rd=[]/\y.wr=[]))->
   Must ops i j\/((∀b∈keys x.wr,b∉y.rd/\b∉keys y.wr)/\∀b∈x.rd,b∉keys y.wr):=by
  intro trf x y i j J B hx hy;rcases hx with hxm | ⟨hx1,hx2⟩
  ·rcases hy with hym | ⟨hy1,hy2⟩
   ·simp only [cV] at hxm hym;by_cases he1:(x.rd=[]/\x.wr=[])
    ·exact .inr (by simp [he1.1,he1.2,keys])
    ·by_cases X:(y.rd=[]/\y.wr=[])
     ·exact .inr (by simp [X.1,X.2,keys])
     ·have m1:(⟨i,x.rd,keys x.wr⟩:TE)∈trf.filter λx=>!(x.rd.isEmpty&&x.ws.isEmpty):=by
       refine kw.2 ⟨hxm,?_⟩;simp only [keys,kn,Dk,Fh];rcases Fb (x.rd=[]) with h | h
       ·exact .inr (by simpa using λhw=>he1 ⟨h,hw⟩)
       ·exact .inl h
      have m2:(⟨j,y.rd,keys y.wr⟩:TE)∈trf.filter λx=>!(x.rd.isEmpty&&x.ws.isEmpty):=by
       refine kw.2 ⟨hym,?_⟩;simp only [keys,kn,Dk,Fh];rcases Fb (y.rd=[]) with h | h
       ·exact .inr (by simpa using λhw=>X ⟨h,hw⟩)
       ·exact .inl h
      have:=Aj (pf J _ m1 _ m2 B) B;exact this.imp (g j i) λh=>h
   ·exact .inr (by simp [hy1,hy2,keys])
  ·exact .inr (by simp [hx1,hx2,keys])
 rcases yp hE ops 0 _ [] (by simp) h with ⟨recs,O,trf,g1,R,Q,_,W,g6⟩ | ⟨p,po,recs,O,sp,trf,v,wr,rp,g1,g0,gr,gd,gw,rfl,R,Q,_,g7,W,g6⟩
 ·split at R
  case h_2=>cases R
  rename_i J;have F:DrawFacts P n s.nb ops recs { s with nb:=s.nb+8*ops.length } (λ_=>True):=by
   refine ⟨g1,rfl,λj o r N Z=>?_,λj o e N he u=>?_,λi j x y B hx hy=>?_,λi j x y B hx hy=>?_⟩
   ·obtain ⟨p1,p2⟩:=g6 j o r N Z;simp only [cV] at p2;have e:=oN recs 0 j { s with nb:=s.nb+8*ops.length };simp only [cV] at e;exact ⟨λt U=>p1▸U,λ_=>p2.eqv e⟩
   ·have:=iO ops 0 hb1 j o e N he u;omega
   ·have:=lL (masks:=jM ops []) ops [] hb2 i j x y (by simpa using B) (by simpa using hx) hy;simp only [bg,cV] at this;exact this.imp (g j i) λh=>h
   ·exact C trf x y i j J B (W i x hx) (W j y hy)
  refine wp_region_any S (zn (kk:=0) F (λ_ _ _=>trivial) (λK a' w' f=>⟨.normal,O,K,rfl,f.eqv Q.symm,R⟩) _ _ ι a _ (by simp) (λj Y=>by omega) (λj o e _ M=>by rw [L j] at M;cases M) (by rw [hno recs 0 _ _ L];exact hI1) (λi _ _ b u _=>?_) ?_)
  ·exact hI.fresh b (by omega)
  ·have:=D7 (λi=>!Dn (Array.replicate ops.toArray.size false) i) (List.range ops.length);simpa using this
 ·split at R
  case h_2=>cases R
  rename_i hpk;simp only [ay,Q4] at hpk;obtain ⟨hw,J⟩:=hpk;simp only [cV] at R g7 hw;have B:p<ops.length:=by
   rcases aH p ops.length with h' | h'
   ·exact h'
   ·rw [eF h'] at g0;cases g0
  have A:∀i r,recs[i]?=some r->i≠p->(i<p/\Must ops i p)\/r.wr=[]:=by
   intro i r Z G;rcases W i r Z G with hx | hx
   ·have:=(cr.1 hw) _ hx;simp only [cV,gC,ay] at this;rcases this with h | h
    ·right;simpa [keys] using h
    ·exact .inl ⟨aD h.1,g p i h.2⟩
   ·exact .inr hx.2
  have g5':∀(j:Nat) (r:Rec),recs[j]?=some r->j≠p->(⟨0+j,r.rd,keys r.wr⟩:TE)∈trf\/(r.rd=[]/\r.wr=[]):=W;have F:DrawFacts P n s.nb ops recs { s with nb:=s.nb+8*ops.length } (λj=>j<p\/(p<j/\(getN (jM ops []) (0+j)).testBit (0+p)=false)):=by
   refine ⟨g1,rfl,λj o r N Z=>?_,λj o e N he u=>?_,λi j x y V hx hy=>?_,λi j x y V hx hy=>?_⟩
   ·obtain ⟨p1,p2⟩:=g6 j o r N Z;have e:=oN recs 0 j { s with nb:=s.nb+8*ops.length };simp only [cV] at e p2 ⊢;exact ⟨λt U=>p1▸U,λhc=>(p2 hc).eqv e⟩
   ·have:=iO ops 0 hb1 j o e N he u;omega
   ·have:=lL (masks:=jM ops []) ops [] hb2 i j x y (by simpa using V) (by simpa using hx) hy;simp only [bg,cV] at this;exact this.imp (g j i) λh=>h
   ·by_cases G:i=p
    ·
     subst G;rw [gr] at hx;cases hx;rcases A j y hy (by omega) with ⟨h,_⟩ | h
     ·omega
     ·exact .inr (by simp [gw,h,keys])
    ·by_cases I:j=p
     ·subst I;rw [gr] at hy;cases hy;rcases A i x hx G with ⟨_,h⟩ | h
      ·exact .inl h
      ·exact .inr (by simp [gw,h,keys])
     ·exact C trf x y i j J V (W i x hx G) (W j y hy I)
  have c:Eqv ((recs.take p).foldl St.put { s with nb:=s.nb+8*ops.length }) (appD 0 recs (λm=>decide (m<p)) { s with nb:=s.nb+8*ops.length }):=by
   have e:=oN recs 0 p { s with nb:=s.nb+8*ops.length };simpa using e
  have hdead:∀j,j<ops.length->j≠p->(j<p\/(p<j/\(getN (jM ops []) (0+j)).testBit (0+p)=false))\/Must ops p j:=by
   intro j _ hne;cases u:(getN (jM ops []) (0+j)).testBit (0+p) with
   | false=>exact .inl ((Nat.lt_or_gt_of_ne hne).imp (λh=>h) λh=>⟨h,rfl⟩)
   | true=>simp only [cV] at u;exact .inr (g j p u)
  refine wp_region_any S (Lj F g0 gr (g7.eqv c) hdead (λD hD hd hn K x a' w' hv f=>⟨.pan v,_,K,⟨x,rfl,hv⟩,?inv,R⟩) _ _ ι a _ (by simp) (λj o e _ M=>by rw [L j] at M;cases M) (L p) (by rw [hno _ 0 _ _ L];exact hI1) (λi _ _ b u _=>?fresh) ?len)
  case inv=>
   have hH:∀b,look O.H b=look (appD 0 recs D { s with nb:=s.nb+8*ops.length }).H b:=by
    intro b;rw [Q.H,c.H,uz,uz];refine nY _ 0 _ _ b _ λj r Y u=>?_;simp only [cV];by_cases I:j=p
    ·subst I;rw [gr] at Y;cases Y;rw [gw] at u;simp [keys] at u
    ·rcases A j r Y I with ⟨d,hm⟩ | hm
     ·rw [hm.in hD g0 hd (by omega)];simp [d]
     ·rw [hm] at u;simp [keys] at u
   have hT:∀t v,look (FN ops s.T) t=some (some v)->look (appD 0 recs D { s with nb:=s.nb+8*ops.length }).T t=some (some v):=by
    intro t v U;obtain ⟨d,h2⟩:=sC ops t v U;rw [xh,xx _ 0 D t _ λj r Y Z=>?_]
    ·exact h2
    ·exfalso;obtain ⟨o,N⟩:=uk F Y;exact d o (dT N) ((F.loc j o r N Y).1 t Z)
   refine ⟨f.size,f.defers,λt v U=>f.tmps t v (hT t v U),⟨f.mem.inj,λb r u=>?_,f.mem.dom,λb blk hl hdd=>f.mem.blk b blk ?_ hdd⟩,?_,f.new,?_,λb r u=>?_,?_,?_⟩
   ·have:=f.mem.low b r u;have e:=Q.nb.trans c.nb;rw [kz] at e;show b<O.nb;rw [e];exact this
   ·show look (wr++(appD 0 recs D { s with nb:=s.nb+8*ops.length }).H) b=_;rw [nS,<-hH b,<-nS];exact hl
   ·have e:=Q.rb.trans c.rb;rw [wb] at e;have d:=f.ext;show ∀b q,ι0 b=some q->K b=some q\/O.rb<=b;rw [e];simp only [St.app,wb] at d;exact d
   ·have e:=Q.ro.trans c.ro;rw [gZ] at e;have d:=f.fr;show Fr (roI ι0 O.ro) w0.w w';rw [e];simp only [St.app,gZ] at d;exact d
   ·have e:=Q.lo.trans c.lo;rw [um] at e;have d:=f.low b r u;show b<O.lo;rw [e];simp only [St.app,um] at d;exact d
   ·have e:=Q.ro.trans c.ro;rw [gZ] at e;have d:=f.fz;show ∀b q,K b=some (some q)->q.fz=true->b<O.ro;rw [e];simp only [St.app,gZ] at d;exact d
   ·have e:=Q.ro.trans c.ro;rw [gZ] at e;have d:=f.gl;show GL (roI ι0 O.ro) w0.w;rw [e];simp only [St.app,gZ] at d;exact d
  case fresh=>exact hI.fresh b (by omega)
  case len=>
   have:=D7 (λi=>!Dn (Array.replicate ops.toArray.size false) i) (List.range ops.length);simpa using this
end Go.Abs
