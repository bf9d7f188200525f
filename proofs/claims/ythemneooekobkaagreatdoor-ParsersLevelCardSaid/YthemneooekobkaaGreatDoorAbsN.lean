
/- A region that draws its order: where what is unordered does not meet, every order comes to what the order of the text comes to.
   Conditions: none; generic over the program. -/
import Derived.Test.YthemneooekobkaaGreatDoorAbsM
set_option linter.unusedSimpArgs false
set_option linter.unusedVariables false
namespace Go.Abs
variable {P:Program}
structure Rec where
 dst:Option Nat
 val:Option V
 wr:List (Nat×Blk)
 rd:List Nat
def St.put (s:St) (r:Rec):St:=s.app r.dst r.val r.wr s.nb
def keys (wr:List (Nat×Blk)):List Nat:=wr.map (·.1)
theorem nM {α:Type} (l m:List (Nat×α)) (n:Nat):look (l++m) n=(look l n).or (look m n):=by
 induction l with
 | nil=>rfl
 | cons x l ih=>
  obtain ⟨k,v⟩:=x;rw [dY,aP,aP];split
  ·rfl
  ·exact ih
theorem oW {α:Type} {l:List (Nat×α)} {n:Nat} (h:n∉l.map (·.1)):look l n=none:=by
 induction l with
 | nil=>rfl
 | cons x l ih=>
  obtain ⟨k,v⟩:=x;simp only [fC,cq,not_or] at h;rw [aP,ab (λe=>h.1 e.symm)];exact ih h.2
theorem pF {α:Type} {l:List (Nat×α)} {n:Nat} (h:n∈l.map (·.1)):∃v,look l n=some v:=by
 induction l with
 | nil=>simp at h
 | cons x l ih=>
  obtain ⟨k,v⟩:=x;rw [aP];split
  ·exact ⟨v,rfl⟩
  ·rename_i a;simp only [fC,cq] at h;exact ih (h.resolve_left λe=>a e.symm)
theorem LJ (s:St) (r:Rec) (t:Nat):look (s.put r).T t=if r.dst=some t then some r.val else look s.T t:=by
 unfold St.put St.app;cases a:r.dst with
 | none=>simp
 | some d=>
  simp only [aP];by_cases h:d=t
  ·subst h;simp
  ·simp [h]
theorem LY (s:St) (r:Rec) (b:Nat):look (s.put r).H b=(look r.wr b).or (look s.H b):=nM _ _ _
theorem QB (s:St) (r:Rec):(s.put r).nb=s.nb:=rfl
structure Eqv (s s':St):Prop where
 T:∀t,look s.T t=look s'.T t
 H:∀b,look s.H b=look s'.H b
 nb:s.nb=s'.nb
 lo:s.lo=s'.lo
 ro:s.ro=s'.ro
 rb:s.rb=s'.rb
theorem Eqv.refl (s:St):Eqv s s:=⟨λ_=>rfl,λ_=>rfl,rfl,rfl,rfl,rfl⟩
theorem Eqv.symm {s s':St} (h:Eqv s s'):Eqv s' s:=⟨λt=>(h.T t).symm,λb=>(h.H b).symm,h.nb.symm,h.lo.symm,h.ro.symm,h.rb.symm⟩
theorem Eqv.trans {a b c:St} (h:Eqv a b) (k:Eqv b c):Eqv a c:=⟨λt=>(h.T t).trans (k.T t),λt=>(h.H t).trans (k.H t),h.nb.trans k.nb,h.lo.trans k.lo,h.ro.trans k.ro,h.rb.trans k.rb⟩
theorem Eqv.put {s s':St} (h:Eqv s s') (r:Rec):Eqv (s.put r) (s'.put r):=
 ⟨λt=>by rw [LJ,LJ,h.T],λb=>by rw [LY,LY,h.H],h.nb,h.lo,h.ro,h.rb⟩
theorem Eqv.puts:∀(l:List Rec) {s s':St},Eqv s s'->Eqv (l.foldl St.put s) (l.foldl St.put s')
 | [],_,_,h=>h
 | r::l,_,_,h=>Eqv.puts l (h.put r)
theorem Inv.eqv {n:Nat} {ι0 ι:Inj} {w0:Base} {s s':St} {a:Act} {w:World} (h:Inv n ι0 w0 ι s a w) (e:Eqv s s'):Inv n ι0 w0 ι s' a w:=
 ⟨h.size,h.defers,λt v G=>h.tmps t v (by rw [e.T];exact G),⟨h.mem.inj,λb r C=>by rw [<-e.nb];exact h.mem.low b r C,h.mem.dom,λb blk E F=>h.mem.blk b blk (by rw [e.H];exact E) F⟩,by rw [<-e.rb];exact h.ext,h.new,by rw [<-e.ro];exact h.fr,λb r C=>by rw [<-e.lo];exact h.low b r C,by rw [<-e.ro];exact h.fz,by rw [<-e.ro];exact h.gl⟩
def appD:Nat->List Rec->(Nat->Bool)->St->St
 | _,[],_,s=>s
 | i,r::l,D,s=>appD (i+1) l D (if D i=true then s.put r else s)
def tU:Nat->List Rec->(Nat->Bool)->Nat->Option (Option V)->Option (Option V)
 | _,[],_,_,x=>x
 | i,r::l,D,t,x=>tU (i+1) l D t (if D i=true/\r.dst=some t then some r.val else x)
def uK:Nat->List Rec->(Nat->Bool)->Nat->Option Blk->Option Blk
 | _,[],_,_,x=>x
 | i,r::l,D,b,x=>uK (i+1) l D b (if D i=true then (look r.wr b).or x else x)
theorem xi:∀(l:List Rec) (i:Nat) (D:Nat->Bool) (s:St) (t:Nat),look (appD i l D s).T t=tU i l D t (look s.T t)
 | [],_,_,_,_=>rfl
 | r::l,i,D,s,t=>by
  simp only [appD,tU,xi l];congr 1;cases D i
  ·simp
  ·simp only [ke,aJ];rw [LJ]
theorem vN:∀(l:List Rec) (i:Nat) (D:Nat->Bool) (s:St) (b:Nat),look (appD i l D s).H b=uK i l D b (look s.H b)
 | [],_,_,_,_=>rfl
 | r::l,i,D,s,b=>by
  simp only [appD,uK,vN l];congr 1;cases D i
  ·simp
  ·simp only [aJ];rw [LY]
theorem jW:∀(l:List Rec) (i:Nat) (D:Nat->Bool) (s:St),(appD i l D s).nb=s.nb
 | [],_,_,_=>rfl
 | r::l,i,D,s=>by
  simp only [appD,jW l];split<;>rfl
theorem hO:∀(l:List Rec) (i:Nat) (D:Nat->Bool) (s:St),(appD i l D s).ro=s.ro
 | [],_,_,_=>rfl
 | r::l,i,D,s=>by
  simp only [appD,hO l];split<;>rfl
theorem vS:∀(l:List Rec) (i:Nat) (D:Nat->Bool) (s:St),(appD i l D s).lo=s.lo
 | [],_,_,_=>rfl
 | r::l,i,D,s=>by
  simp only [appD,vS l];split<;>rfl
theorem us:∀(l:List Rec) (i:Nat) (D:Nat->Bool) (s:St),(appD i l D s).rb=s.rb
 | [],_,_,_=>rfl
 | r::l,i,D,s=>by
  simp only [appD,us l];split<;>rfl
theorem qw:∀(l:List Rec) (i:Nat) (D a:Nat->Bool) (t:Nat) (x:Option (Option V)),(∀j r,l[j]?=some r->r.dst=some t->D (i+j)=a (i+j))->tU i l D t x=tU i l a t x
 | [],_,_,_,_,_,_=>rfl
 | r::l,i,D,a,t,x,h=>by
  simp only [tU];have b:=h 0 r (by simp);simp only [cf] at b;rw [qw l (i+1) D a t _ λj d e f=>by have:=h (j+1) d (by simpa using e) f;rwa [show i+(j+1)=i+1+j by omega] at this];congr 1;by_cases c:r.dst=some t
  ·rw [b c]
  ·simp [c]
theorem wC (l:List Rec) (i:Nat) (D:Nat->Bool) (t:Nat) (x:Option (Option V)) (h:∀j r,l[j]?=some r->r.dst=some t->D (i+j)=false):tU i l D t x=x:=by
 induction l generalizing i x with
 | nil=>rfl
 | cons r l ih=>
  simp only [tU];have a:=h 0 r (by simp);simp only [cf] at a;have:¬(D i=true/\r.dst=some t):=λ⟨b,e⟩=>by rw [a e] at b;cases b
  rw [ab this];exact ih (i+1) x λj c d f=>by have:=h (j+1) c (by simpa using d) f;rwa [show i+(j+1)=i+1+j by omega] at this
theorem Ef:∀(l:List Rec) (i j:Nat) (D:Nat->Bool) (t:Nat) (x:Option (Option V)) (r:Rec),l[j]?=some r->D (i+j)=true->r.dst=some t->
  (∀k b,j<k->l[k]?=some b->b.dst=some t->D (i+k)=false)->tU i l D t x=some r.val
 | [],_,_,_,_,_,_,h,_,_,_=>by simp at h
 | r0::l,i,0,D,t,x,r,h,e,c,a=>by
  simp only [kD,aq] at h;subst h;simp only [cf] at e;simp only [tU];rw [ae ⟨e,c⟩];exact wC l (i+1) D t _ λk b f d=>by have:=a (k+1) b (by omega) (by simpa using f) d;rwa [show i+(k+1)=i+1+k by omega] at this
 | r0::l,i,j+1,D,t,x,r,h,e,c,a=>by
  simp only [tU]
  exact Ef l (i+1) j D t _ r (by simpa using h) (by rwa [show i+1+j=i+(j+1) by omega]) c λk b f g d=>by
   have:=a (k+1) b (by omega) (by simpa using g) d;rwa [show i+(k+1)=i+1+k by omega] at this
theorem nr:∀(l:List Rec) (i:Nat) (D a:Nat->Bool) (b:Nat) (x:Option Blk),(∀j r,l[j]?=some r->b∈keys r.wr->D (i+j)=a (i+j))->uK i l D b x=uK i l a b x
 | [],_,_,_,_,_,_=>rfl
 | r::l,i,D,a,b,x,h=>by
  simp only [uK];have c:=h 0 r (by simp);simp only [cf] at c;rw [nr l (i+1) D a b _ λj e f g=>by have:=h (j+1) e (by simpa using f) g;rwa [show i+(j+1)=i+1+j by omega] at this];congr 1;by_cases d:b∈keys r.wr
  ·rw [c d]
  ·simp [oW d]
theorem Fh (l:List Rec) (i:Nat) (D:Nat->Bool) (b:Nat) (x:Option Blk) (h:∀j r,l[j]?=some r->b∈keys r.wr->D (i+j)=false):uK i l D b x=x:=by
 induction l generalizing i x with
 | nil=>rfl
 | cons r l ih=>
  simp only [uK];have a:=h 0 r (by simp);simp only [cf] at a;have:(if D i=true then (look r.wr b).or x else x)=x:=by
   by_cases c:b∈keys r.wr
   ·rw [a c];simp
   ·rw [oW c];simp
  rw [this];exact ih (i+1) x λj d e f=>by have:=h (j+1) d (by simpa using e) f;rwa [show i+(j+1)=i+1+j by omega] at this
theorem DN:∀(l:List Rec) (i j:Nat) (D:Nat->Bool) (b:Nat) (x:Option Blk) (r:Rec),l[j]?=some r->D (i+j)=true->b∈keys r.wr->
  (∀k c,j<k->l[k]?=some c->b∈keys c.wr->D (i+k)=false)->uK i l D b x=look r.wr b
 | [],_,_,_,_,_,_,h,_,_,_=>by simp at h
 | r0::l,i,0,D,b,x,r,h,f,d,a=>by
  simp only [kD,aq] at h;subst h;simp only [cf] at f;simp only [uK];obtain ⟨v,n⟩:=pF d;rw [ae f,n];exact Fh l (i+1) D b _ λk c g e=>by have:=a (k+1) c (by omega) (by simpa using g) e;rwa [show i+(k+1)=i+1+k by omega] at this
 | r0::l,i,j+1,D,b,x,r,h,f,d,a=>by
  simp only [uK]
  exact DN l (i+1) j D b _ r (by simpa using h) (by rwa [show i+1+j=i+(j+1) by omega]) d λk c g m e=>by
   have:=a (k+1) c (by omega) (by simpa using m) e;rwa [show i+(k+1)=i+1+k by omega] at this
theorem om:∀(l:List Rec) (i j:Nat) (s:St),Eqv ((l.take j).foldl St.put s) (appD i l (λm=>decide (m<i+j)) s)
 | [],i,j,s=>by simp [appD];exact Eqv.refl s
 | r::l,i,0,s=>by
  have:∀(l:List Rec) (i a:Nat) (s:St),i<=a->appD a l (λm=>decide (m<i)) s=s:=by
   intro l
   induction l with
   | nil=>intros;rfl
   | cons r l ih=>intro i a s h;simp only [appD,show ¬a<i by omega,ly,bq,aE];exact ih i (a+1) s (by omega)
  simp only [l8,E3,cf];rw [this (r::l) i i s (aU _)];exact Eqv.refl s
 | r::l,i,j+1,s=>by
  simp only [mg,sG,appD,show i<i+(j+1) by omega,me,aJ];have:=om l (i+1) j (s.put r);rwa [show (λm=>decide (m<i+1+j))=λm=>decide (m<i+(j+1)) by funext m;simp only [lR];omega] at this
theorem yo:∀(l:List Rec) (i:Nat) (D:Nat->Bool) (s:St),(∀j,j<l.length->D (i+j)=true)->appD i l D s=l.foldl St.put s
 | [],_,_,_,_=>rfl
 | r::l,i,D,s,h=>by
  have a:=h 0 (by simp);simp only [cf] at a;simp only [appD,a,aJ,sG];exact yo l (i+1) D _ λj b=>by have:=h (j+1) (by simpa using b);rwa [show i+(j+1)=i+1+j by omega] at this
def sd (P:Program) (n nb0:Nat) (ops:List Oper) (i:Nat) (o:Oper) (r:Rec) (base:St):Prop:=
 ∀s':St,(∀t∈o.looksAt ops.toArray,look s'.T t=look base.T t)->(∀b∈r.rd,look s'.H b=look base.H b)->s'.nb=base.nb->s'.ro=base.ro->
  ∀(ι0:Inj) (w0:Base) (ι:Inj) (a:Act) (w:World),Inv n ι0 w0 ι s' a w->(∀b,nb0+8*i<=b->b<nb0+8*i+8->ι b=none)->∀(K:Act->World->Prop) (Q:Exit->Act->World->Prop),
   (∀c d w',(∀b,(b<nb0+8*i\/nb0+8*i+8<=b)->c b=ι b)->Inv n ι0 w0 c (s'.put r) d w'->K d w')->
   if Region.wanted o (yielded ops.toArray a.tmps) then o.wp P a w K Q else K (a.put o.dst undef) w
def wO (P:Program) (n nb0:Nat) (ops:List Oper) (i:Nat) (o:Oper) (v:V) (wr:List (Nat×Blk)) (rd:List Nat) (base:St):Prop:=
 ∀s':St,(∀t∈o.looksAt ops.toArray,look s'.T t=look base.T t)->(∀b∈rd,look s'.H b=look base.H b)->s'.nb=base.nb->s'.ro=base.ro->
  ∀(ι0:Inj) (w0:Base) (ι:Inj) (a:Act) (w:World),Inv n ι0 w0 ι s' a w->(∀b,nb0+8*i<=b->b<nb0+8*i+8->ι b=none)->∀(K:Act->World->Prop) (Q:Exit->Act->World->Prop),
   (∀c x w',VR c v x->Inv n ι0 w0 c (s'.app none none wr s'.nb) a w'->Q (.panic [{ v:=x,recovered:=false }]) a w')->
   Region.wanted o (yielded ops.toArray a.tmps)=true/\o.wp P a w K Q
theorem wO.eqv {n nb0:Nat} {ops:List Oper} {i:Nat} {o:Oper} {v:V} {wr:List (Nat×Blk)} {rd:List Nat} {base C:St} (h:wO P n nb0 ops i o v wr rd base) (e:Eqv base C):wO P n nb0 ops i o v wr rd C:=
 λs' O F G E=>h s' (λt J=>by rw [O t J,e.T]) (λb K=>by rw [F b K,e.H]) (by rw [G,e.nb]) (by rw [E,e.ro])
theorem sd.eqv {n nb0:Nat} {ops:List Oper} {i:Nat} {o:Oper} {r:Rec} {base C:St} (h:sd P n nb0 ops i o r base) (e:Eqv base C):sd P n nb0 ops i o r C:=
 λs' O F G E=>h s' (λt J=>by rw [O t J,e.T]) (λb K=>by rw [F b K,e.H]) (by rw [G,e.nb]) (by rw [E,e.ro])
theorem xk {α:Type} {ops:List Oper} {o:Oper} {s:St} {k:Bool->St->Option α} {z:α} (h:vr ops o s k=some z):
  ∃c A,k c A=some z/\Eqv A s/\∀s':St,(∀t∈o.looksAt ops.toArray,look s'.T t=look s.T t)->∀(n:Nat) (ι0 ι:Inj) (w0:Base) (a:Act) (w:World),Inv n ι0 w0 ι s' a w->
   Region.wanted o (yielded ops.toArray a.tmps)=c:=by
 unfold vr at h;split at h
 ·rename_i p;exact ⟨true,s,h,Eqv.refl s,λ_ _ _ _ _ _ _ _ _=>by simp [Region.wanted,p]⟩
 ·rename_i j c p;split at h
  case h_2=>cases h
  rename_i d m;have f:d∈o.looksAt ops.toArray:=by
   unfold Oper.looksAt;unfold gtmp at m;split at m
   ·rename_i C v;simp [p,v,m]
   ·cases m
  have again:∀x,look s.T d=some (some (.b x))->Eqv { s with T:=(d,some (V.b x))::s.T } s:=by
   intro x l;refine ⟨λt=>?_,λ_=>rfl,rfl,rfl,rfl,rfl⟩;show look ((d,some (V.b x))::s.T) t=look s.T t;rw [aP];split
   ·rename_i e;subst e;exact l.symm
   ·rfl
  split at h
  ·rename_i x l;cases x
   ·refine ⟨!c,_,h,again _ l,λs' u n ι0 ι w0 a w q=>?_⟩;obtain ⟨y,r,g⟩:=q.tmps d _ (by rw [u d f];exact l);simp only [VR] at g;subst g;have i:=pw m a.tmps;rw [r] at i;cases c<;>simp [Region.wanted,p,i]
   ·refine ⟨c,_,h,again _ l,λs' u n ι0 ι w0 a w q=>?_⟩;obtain ⟨y,r,g⟩:=q.tmps d _ (by rw [u d f];exact l);simp only [VR] at g;subst g;have i:=pw m a.tmps;rw [r] at i;cases c<;>simp [Region.wanted,p,i]
  ·rename_i l;refine ⟨false,s,h,Eqv.refl s,λs' u n ι0 ι w0 a w q=>?_⟩;obtain ⟨y,r,g⟩:=q.tmps d _ (by rw [u d f];exact l);simp only [VR] at g;obtain ⟨B,rfl,_⟩:=g;have i:=pw m a.tmps;rw [r] at i;simp [Region.wanted,p,i]
  ·cases h
theorem vI {ops:Array Oper} {o:Oper} {s s':St} (h:∀t∈o.looksAt ops,look s'.T t=look s.T t):∀x∈o.op.operands.toList,opd s'.T x=opd s.T x:=by
 intro x a;cases x with
 | tmp t=>
  have:=h t (by
   unfold Oper.looksAt;simp only [kL,List.mem_filterMap];exact .inl ⟨.tmp t,a,rfl⟩)
  simp only [opd,this]
 | _=>rfl
theorem Gy {α:Type} {E:List Ent} (hE:∀x∈E,fO P x) {n nb0:Nat} {ops:List Oper} {masks:List Nat} {p:Nat} {k:List TE->Option α} {z:α}:∀(l:List Oper) (i:Nat) (s:St) (tr:List TE),
  nb0+8*(i+l.length)<=s.nb->runB P E n nb0 ops masks p i l s tr k=some z->
  ∃(recs:List Rec) (trf:List TE),recs.length=l.length/\k trf=some z/\(∀x∈tr,x∈trf)/\
   (∀j r,recs[j]?=some r->(⟨i+j,r.rd,keys r.wr⟩:TE)∈trf\/(r.rd=[]/\r.wr=[]))/\
   ∀(j:Nat) (o:Oper) (r:Rec),l[j]?=some o->recs[j]?=some r->r.dst=o.dst/\((getN masks (i+j)).testBit p=false->sd P n nb0 ops (i+j) o r ((recs.take j).foldl St.put s))
 | [],i,s,tr,D,h=>⟨[],tr,rfl,h,λ_ h=>h,λj r h=>by simp at h,λj o r h=>by simp at h⟩
 | o::l,i,s,tr,D,h=>by
  simp only [bf] at D;simp only [runB] at h;have more:∀(e:Rec) (d:List TE) (y:St),e.dst=o.dst->((getN masks i).testBit p=false->sd P n nb0 ops i o e s)->Eqv y (s.put e)->s.nb<=y.nb->(∀x∈tr,x∈d)->((⟨i,e.rd,keys e.wr⟩:TE)∈d\/(e.rd=[]/\e.wr=[]))->
    runB P E n nb0 ops masks p (i+1) l y d k=some z->∃(recs:List Rec) (trf:List TE),recs.length=(o::l).length/\k trf=some z/\(∀x∈tr,x∈trf)/\
   (∀j r,recs[j]?=some r->(⟨i+j,r.rd,keys r.wr⟩:TE)∈trf\/(r.rd=[]/\r.wr=[]))/\
   ∀(j:Nat) (A:Oper) (r:Rec),(o::l)[j]?=some A->recs[j]?=some r->r.dst=A.dst/\((getN masks (i+j)).testBit p=false->sd P n nb0 ops (i+j) A r ((recs.take j).foldl St.put s)):=by
   intro e d y R hl e2 Z M N h;obtain ⟨recs,trf,g1,g2,W,g5,g6⟩:=Gy hE l (i+1) y d (by omega) h;refine ⟨e::recs,trf,by simp [g1],g2,λx V=>W x (M x V),λj r m=>?_,λj A r L m=>?_⟩
   ·cases j with
    | zero=>simp only [kD,aq] at m;subst m;exact N.imp (W _) id
    | succ j=>have:=g5 j r (by simpa using m);rwa [show i+1+j=i+(j+1) by omega] at this
   ·cases j with
    | zero=>
     simp only [kD,aq] at L m;subst L m;exact ⟨R,hl⟩
    | succ j=>
     obtain ⟨p1,p2⟩:=g6 j A r (by simpa using L) (by simpa using m);rw [show i+1+j=i+(j+1) by omega] at p2;exact ⟨p1,λq=>(p2 q).eqv (by simpa using Eqv.puts (recs.take j) e2)⟩
  split at h
  ·rename_i F;exact more ⟨o.dst,none,[],[]⟩ tr (s.app o.dst none [] s.nb) rfl (λq=>by rw [F] at q;cases q) (Eqv.refl _) (aU _) (λ_ h=>h) (.inr ⟨rfl,rfl⟩) h
  obtain ⟨G,C,h,u,Y⟩:=xk h;have c:C.nb=s.nb:=u.nb;cases G
  ·simp only at h;split at h
   case h_2=>cases h
   rename_i R;refine more ⟨o.dst,some (.tp []),[],[]⟩ tr (C.app o.dst (some (.tp [])) [] C.nb) rfl (λ_ s' J q2 q3 X ι0 w0 ι a w I B K Q S=>?_) (u.put ⟨o.dst,some (.tp []),[],[]⟩) (tW c.symm) (λ_ h=>h) (.inr ⟨rfl,rfl⟩) h;rw [Y s' J n ι0 ι w0 a w I];simp only [bq,aE];exact S ι _ _ (λ_ _=>rfl) (I.skip R)
  ·simp only at h;rcases zu hE (by omega) h with ⟨val,wr,rd,g,U,f⟩ | ⟨v,wr,rd,U,f⟩
   ·refine more ⟨o.dst,val,wr,rd⟩ (⟨i,rd,keys wr⟩::tr) (C.app o.dst val wr C.nb) rfl (λ_ s' J q2 q3 X ι0 w0 ι a w I B K Q S=>?_) (u.put ⟨o.dst,val,wr,rd⟩) (tW c.symm) (λx V=>gk _ V) (.inl (by simp [keys])) U;rw [Y s' J n ι0 ι w0 a w I];simp only [aJ];refine f s' (vI λt ht=>by rw [J t ht,u.T]) (λb q=>by rw [q2 b q,u.H]) (by rw [q3,c]) (by rw [X,u.ro]) ι0 w0 ι a w I (by simpa using B) K Q λO a' w' z1 z2=>S O a' w' (by simpa using z1) z2
   ·cases U
theorem yZ {α:Type} {E:List Ent} (hE:∀x∈E,fO P x) {n nb0:Nat} {ops:List Oper} {masks:List Nat} {k:St->List TE->Option α} {kp:Nat->V->St->List TE->Option α} {z:α}:∀(l:List Oper) (i:Nat) (s:St) (tr:List TE),
  nb0+8*(i+l.length)<=s.nb->runD P E n nb0 ops masks kp i l s tr k=some z->
  (∃(recs:List Rec) (d:St) (trf:List TE),recs.length=l.length/\k d trf=some z/\Eqv d (recs.foldl St.put s)/\(∀x∈tr,x∈trf)/\
   (∀j r,recs[j]?=some r->(⟨i+j,r.rd,keys r.wr⟩:TE)∈trf\/(r.rd=[]/\r.wr=[]))/\
   ∀(j:Nat) (o:Oper) (r:Rec),l[j]?=some o->recs[j]?=some r->r.dst=o.dst/\sd P n nb0 ops (i+j) o r ((recs.take j).foldl St.put s))\/
  (∃(p:Nat) (op:Oper) (recs:List Rec) (d:St) (M:St) (trf:List TE) (v:V) (wr:List (Nat×Blk)) (A:Rec),recs.length=l.length/\l[p]?=some op/\recs[p]?=some A/\A.dst=op.dst/\A.wr=[]/\M=d.app none none wr d.nb/\kp (i+p) v M trf=some z/\Eqv d ((recs.take p).foldl St.put s)/\(∀x∈tr,x∈trf)/\
   wO P n nb0 ops (i+p) op v wr A.rd ((recs.take p).foldl St.put s)/\
   (∀j r,recs[j]?=some r->j≠p->(⟨i+j,r.rd,keys r.wr⟩:TE)∈trf\/(r.rd=[]/\r.wr=[]))/\
   ∀(j:Nat) (o:Oper) (r:Rec),l[j]?=some o->recs[j]?=some r->r.dst=o.dst/\((j<p\/(p<j/\(getN masks (i+j)).testBit (i+p)=false))->sd P n nb0 ops (i+j) o r ((recs.take j).foldl St.put s)))
 | [],i,s,tr,X,h=>.inl ⟨[],s,tr,rfl,h,Eqv.refl s,λ_ h=>h,λj r h=>by simp at h,λj o r h=>by simp at h⟩
 | o::l,i,s,tr,X,h=>by
  simp only [bf] at X;simp only [runD] at h;obtain ⟨want,D,h,u,hw⟩:=xk h;have e:D.nb=s.nb:=u.nb;have more:∀(B:Rec) (y:List TE) (O:St),B.dst=o.dst->sd P n nb0 ops i o B s->Eqv O (s.put B)->s.nb<=O.nb->(∀x∈tr,x∈y)->((⟨i,B.rd,keys B.wr⟩:TE)∈y\/(B.rd=[]/\B.wr=[]))->
    runD P E n nb0 ops masks kp (i+1) l O y k=some z->
    (∃(recs:List Rec) (d:St) (trf:List TE),recs.length=(o::l).length/\k d trf=some z/\Eqv d (recs.foldl St.put s)/\(∀x∈tr,x∈trf)/\
   (∀j r,recs[j]?=some r->(⟨i+j,r.rd,keys r.wr⟩:TE)∈trf\/(r.rd=[]/\r.wr=[]))/\
   ∀(j:Nat) (f:Oper) (r:Rec),(o::l)[j]?=some f->recs[j]?=some r->r.dst=f.dst/\sd P n nb0 ops (i+j) f r ((recs.take j).foldl St.put s))\/
    (∃(p:Nat) (op:Oper) (recs:List Rec) (d:St) (M:St) (trf:List TE) (v:V) (wr:List (Nat×Blk)) (A:Rec),recs.length=(o::l).length/\(o::l)[p]?=some op/\recs[p]?=some A/\A.dst=op.dst/\A.wr=[]/\M=d.app none none wr d.nb/\kp (i+p) v M trf=some z/\Eqv d ((recs.take p).foldl St.put s)/\(∀x∈tr,x∈trf)/\
   wO P n nb0 ops (i+p) op v wr A.rd ((recs.take p).foldl St.put s)/\
   (∀j r,recs[j]?=some r->j≠p->(⟨i+j,r.rd,keys r.wr⟩:TE)∈trf\/(r.rd=[]/\r.wr=[]))/\
   ∀(j:Nat) (f:Oper) (r:Rec),(o::l)[j]?=some f->recs[j]?=some r->r.dst=f.dst/\((j<p\/(p<j/\(getN masks (i+j)).testBit (i+p)=false))->sd P n nb0 ops (i+j) f r ((recs.take j).foldl St.put s))):=by
   intro B y O hd hl L hnb2 S U h;rcases yZ hE l (i+1) O y (by omega) h with ⟨recs,d,trf,g1,N,g3,J,g5,g6⟩ | ⟨p,op,recs,d,M,trf,v,wr,A,g1,g0,gr,gd,gw,gs,N,g3,J,g7,g5,g6⟩
   ·refine .inl ⟨B::recs,d,trf,by simp [g1],N,g3.trans (Eqv.puts recs L),λx hx=>J x (S x hx),λj r c=>?_,λj f r m c=>?_⟩
    ·cases j with
     | zero=>simp only [kD,aq] at c;subst c;exact U.imp (J _) id
     | succ j=>have:=g5 j r (by simpa using c);rwa [show i+1+j=i+(j+1) by omega] at this
    ·cases j with
     | zero=>
      simp only [kD,aq] at m c;subst m c;exact ⟨hd,hl⟩
     | succ j=>
      obtain ⟨W,G⟩:=g6 j f r (by simpa using m) (by simpa using c);rw [show i+1+j=i+(j+1) by omega] at G;exact ⟨W,G.eqv (by simpa using Eqv.puts (recs.take j) L)⟩
   ·rw [show i+1+p=i+(p+1) by omega] at N g7;refine .inr ⟨p+1,op,B::recs,d,M,trf,v,wr,A,by simp [g1],by simpa using g0,by simpa using gr,gd,gw,gs,N,g3.trans (by simpa using Eqv.puts (recs.take p) L),λx hx=>J x (S x hx),g7.eqv (by simpa using Eqv.puts (recs.take p) L),λj r c Y=>?_,λj f r m c=>?_⟩
    ·cases j with
     | zero=>simp only [kD,aq] at c;subst c;exact U.imp (J _) id
     | succ j=>have:=g5 j r (by simpa using c) (by omega);rwa [show i+1+j=i+(j+1) by omega] at this
    ·cases j with
     | zero=>
      simp only [kD,aq] at m c;subst m c;exact ⟨hd,λ_=>hl⟩
     | succ j=>
      obtain ⟨W,G⟩:=g6 j f r (by simpa using m) (by simpa using c);rw [show i+1+j=i+(j+1) by omega,show i+1+p=i+(p+1) by omega] at G;exact ⟨W,λhc=>(G (hc.imp (λh=>by omega) λh=>⟨by omega,h.2⟩)).eqv (by simpa using Eqv.puts (recs.take j) L)⟩
  cases want
  ·simp only at h;split at h
   case h_2=>cases h
   rename_i hd;refine more ⟨o.dst,some (.tp []),[],[]⟩ tr (D.app o.dst (some (.tp [])) [] D.nb) rfl (λs' F q2 q3 R ι0 w0 ι a w I C K Q Z=>?_) (u.put ⟨o.dst,some (.tp []),[],[]⟩) (tW e.symm) (λ_ h=>h) (.inr ⟨rfl,rfl⟩) h;rw [hw s' F n ι0 ι w0 a w I];simp only [bq,aE];exact Z ι _ _ (λ_ _=>rfl) (I.skip hd)
  ·simp only at h;rcases zu hE (by omega) h with ⟨val,wr,rd,g,hk,q⟩ | ⟨v,wr,rd,hk,q⟩
   ·refine more ⟨o.dst,val,wr,rd⟩ (⟨i,rd,keys wr⟩::tr) (D.app o.dst val wr D.nb) rfl (λs' F q2 q3 R ι0 w0 ι a w I C K Q Z=>?_) (u.put ⟨o.dst,val,wr,rd⟩) (tW e.symm) (λx hx=>gk _ hx) (.inl (by simp [keys])) hk;rw [hw s' F n ι0 ι w0 a w I];simp only [aJ];refine q s' (vI λt ht=>by rw [F t ht,u.T]) (λb hb=>by rw [q2 b hb,u.H]) (by rw [q3,e]) (by rw [R,u.ro]) ι0 w0 ι a w I (by simpa using C) K Q λι' a' w' z1 z2=>Z ι' a' w' (by simpa using z1) z2
   ·obtain ⟨recs,trf,g1,N,J,g5,g6⟩:=Gy hE l (i+1) _ tr (by simp only [St.app];omega) hk;have L:Eqv (D.app o.dst none [] D.nb) (s.put ⟨o.dst,none,[],rd⟩):=u.put ⟨o.dst,none,[],rd⟩;refine .inr ⟨0,o,⟨o.dst,none,[],rd⟩::recs,D,_,trf,v,wr,⟨o.dst,none,[],rd⟩,by simp [g1],rfl,rfl,rfl,rfl,rfl,N,u,J,λs' F q2 q3 R ι0 w0 ι a w I C K Q Z=>?_,λj r c Y=>?_,λj f r m c=>?_⟩
    ·simp only [l8,E3] at F q2 q3 R;exact ⟨hw s' F n ι0 ι w0 a w I,q s' (vI λt ht=>by rw [F t ht,u.T]) (λb hb=>by rw [q2 b hb,u.H]) (by rw [q3,e]) (by rw [R,u.ro]) ι0 w0 ι a w I (by simpa using C) K Q Z⟩
    ·cases j with
     | zero=>exact absurd rfl Y
     | succ j=>have:=g5 j r (by simpa using c);rwa [show i+1+j=i+(j+1) by omega] at this
    ·cases j with
     | zero=>
      simp only [kD,aq] at m c;subst m c;exact ⟨rfl,λh=>by omega⟩
     | succ j=>
      obtain ⟨W,G⟩:=g6 j f r (by simpa using m) (by simpa using c);rw [show i+1+j=i+(j+1) by omega] at G;refine ⟨W,λhc=>(G ?_).eqv (by simpa using Eqv.puts (recs.take j) L)⟩;rcases hc with hc | hc
      ·omega
      ·exact hc.2
def Down (ops:List Oper) (D:Nat->Bool):Prop:=∀j o e,ops[j]?=some o->D j=true->e∈o.after.toList->Region.binds .any e=true->D e.on=true
def Must (ops:List Oper) (i j:Nat):Prop:=∀D,Down ops D->D j=true->D i=true
def Dn (a:Array Bool):Nat->Bool:=λi=>a.getD i false
structure DrawFacts (P:Program) (n nb0:Nat) (ops:List Oper) (recs:List Rec) (s0:St) (live:Nat->Prop):Prop where
 len:recs.length=ops.length
 nb:s0.nb=nb0+8*ops.length
 loc:∀(j:Nat) (o:Oper) (r:Rec),ops[j]?=some o->recs[j]?=some r->(∀t,r.dst=some t->o.dst=some t)/\(live j->sd P n nb0 ops j o r (appD 0 recs (λm=>decide (m<j)) s0))
 down:∀(j:Nat) (o:Oper) (e:Edge),ops[j]?=some o->e∈o.after.toList->Region.binds .any e=true->e.on<j
 apart:∀(i j:Nat) (x y:Oper),i<j->ops[i]?=some x->ops[j]?=some y->Must ops i j\/x.apart ops.toArray y=true
 blk:∀(i j:Nat) (x y:Rec),i<j->recs[i]?=some x->recs[j]?=some y->Must ops i j\/((∀b∈keys x.wr,b∉y.rd/\b∉keys y.wr)/\∀b∈x.rd,b∉keys y.wr)
theorem qG {ops:List Oper} {a:Array Bool} {i:Nat} (k:a.size=ops.length) (h:i∈Region.ready .any ops.toArray a):
  ∃o,ops[i]?=some o/\i<ops.length/\Dn a i=false/\∀e∈o.after.toList,Region.binds .any e=true->Dn a e.on=true:=by
 unfold Region.ready at h;simp only [jX,jy,aA,xF] at h;obtain ⟨f,b,c⟩:=h;have d:ops[i]?=some ops[i]:=by simp [f]
 refine ⟨ops[i],d,f,?_,λe g j=>?_⟩
 ·unfold Dn;have:i<a.size:=by omega
  simp only [oy,Qz this,vv] at b ⊢;simpa using b
 ·simp only [List.getElem?_toArray,d,ew,vv] at c;have:=(Array.all_eq_true'.1 c) e (by simpa using g);simp only [j,cV,nP] at this;exact this
theorem zg {ops:List Oper} {a:Array Bool} {i:Nat} {o:Oper} (j:a.size=ops.length) (d:ops[i]?=some o) (c:Dn a i=false)
  (f:∀e∈o.after.toList,Region.binds .any e=true->Dn a e.on=true):i∈Region.ready .any ops.toArray a:=by
 have hi:i<ops.length:=by
  rcases aF i ops.length with b | b
  ·exact b
  ·rw [fU b] at d;cases d
 unfold Region.ready;simp only [jX,jy,aA,xF];refine ⟨hi,?_,?_⟩
 ·have:i<a.size:=by omega
  unfold Dn at c;simp only [oy,Qz this,vv] at c ⊢;simp [c]
 ·simp only [List.getElem?_toArray,d,ew,vv];refine Array.all_eq_true'.2 λe g=>?_;cases h:Region.binds .any e with
  | false=>rfl
  | true=>
   have:=f e (by simpa using g) h;unfold Dn at this;simpa using this
theorem xb {a:Array Bool} {i:Nat} (h:i<a.size) (j:Nat):Dn (a.setIfInBounds i true) j=if j=i then true else Dn a j:=by
 unfold Dn;simp only [oy];rw [P6];by_cases b:i=j
 ·subst b;simp [h]
 ·simp [b,show ¬j=i from λe=>b e.symm]
theorem Down.add {ops:List Oper} {D:Nat->Bool} (h:Down ops D) {i:Nat} {o:Oper} (Q:ops[i]?=some o) (K:∀e∈o.after.toList,Region.binds .any e=true->D e.on=true):
  Down ops λj=>if j=i then true else D j:=by
 intro j O e E G F J;show (if e.on=i then true else D e.on)=true;by_cases C:j=i
 ·subst C;rw [Q] at E;cases E;have:=K e F J;split
  ·rfl
  ·exact this
 ·simp only [C,aE] at G;have:=h j O e E G F J;split
  ·rfl
  ·exact this
theorem Must.in {ops:List Oper} {D:Nat->Bool} (h:Down ops D) {i k:Nat} {o:Oper} (F:ops[i]?=some o) (E:∀e∈o.after.toList,Region.binds .any e=true->D e.on=true)
  (G:Must ops k i) (C:k≠i):D k=true:=by
 have:=G _ (h.add F E) (by simp);simpa [C] using this
section
variable {n nb0:Nat} {ops:List Oper} {recs:List Rec} {s0:St} {live:Nat->Prop} (F:DrawFacts P n nb0 ops recs s0 live)
include F
theorem u0 {i:Nat} {o:Oper} (h:ops[i]?=some o):∃r,recs[i]?=some r:=by
 have hi:i<ops.length:=by
  rcases aF i ops.length with h' | h'
  ·exact h'
  ·rw [fU h'] at h;cases h
 exact ⟨recs[i]'(by rw [F.len];exact hi),by simp [F.len,hi]⟩
theorem tM {i:Nat} {r:Rec} (h:recs[i]?=some r):∃o,ops[i]?=some o:=by
 have hi:i<recs.length:=by
  rcases aF i recs.length with h' | h'
  ·exact h'
  ·rw [fU h'] at h;cases h
 exact ⟨ops[i]'(by rw [<-F.len];exact hi),by simp [F.len▸hi]⟩
theorem yy {D:Nat->Bool} (s:Down ops D) {i:Nat} {o:Oper} (h:ops[i]?=some o) (u:D i=false) (w:∀e∈o.after.toList,Region.binds .any e=true->D e.on=true)
  {t:Nat} (v:t∈o.looksAt ops.toArray):look (appD 0 recs D s0).T t=look (appD 0 recs (λm=>decide (m<i)) s0).T t:=by
 rw [xi,xi];refine qw recs 0 _ _ t _ λj r q x=>?_;simp only [cL];obtain ⟨g,c⟩:=tM F q;have a:=((F.loc j g r c q).1 t x).symm;rcases CJ j i with d | f | n
 ·have p:D j=true:=by
   rcases F.apart j i g o d c h with k | b
   ·exact k.in s h w (by omega)
   ·exact absurd v ((BY b).1 t a.symm)
  rw [p];simp [d]
 ·subst f;simp [u]
 ·have p:D j=false:=by
   rcases F.apart i j o g n h c with k | b
   ·cases l:D j with
    | false=>rfl
    | true=>have:=k D s l;rw [u] at this;cases this
   ·exact absurd v ((BY b).2.2 t a.symm)
  rw [p];simp;omega
theorem xB {D:Nat->Bool} (q:Down ops D) {i:Nat} {o:Oper} {r:Rec} (w:ops[i]?=some o) (p:recs[i]?=some r) (s:D i=false)
  (v:∀e∈o.after.toList,Region.binds .any e=true->D e.on=true) {b:Nat} (t:b∈r.rd):look (appD 0 recs D s0).H b=look (appD 0 recs (λm=>decide (m<i)) s0).H b:=by
 rw [vN,vN];refine nr recs 0 _ _ b _ λj l n u=>?_;simp only [cL];rcases CJ j i with c | d | f
 ·have k:D j=true:=by
   rcases F.blk j i l r c n p with h | a
   ·exact h.in q w v (by omega)
   ·exact absurd t (a.1 b u).1
  rw [k];simp [c]
 ·subst d;simp [s]
 ·have k:D j=false:=by
   rcases F.blk i j r l f p n with h | a
   ·cases g:D j with
    | false=>rfl
    | true=>have:=h D q g;rw [s] at this;cases this
   ·exact absurd u (a.2 b t)
  rw [k];simp;omega
theorem xY {D:Nat->Bool} (C:Down ops D) {i:Nat} {o:Oper} {r:Rec} (z:ops[i]?=some o) (f:recs[i]?=some r) (A:D i=false):
  Eqv ((appD 0 recs D s0).put r) (appD 0 recs (λj=>if j=i then true else D j) s0):=by
 have n:=(F.loc i o r z f).1;refine ⟨λt=>?_,λb=>?_,by rw [QB,jW,jW],by show (appD 0 recs D s0).lo=_;rw [vS,vS],by show (appD 0 recs D s0).ro=_;rw [hO,hO],by show (appD 0 recs D s0).rb=_;rw [us,us]⟩
 ·rw [LJ,xi,xi];by_cases p:r.dst=some t
  ·rw [ae p];symm;refine Ef recs 0 i _ t _ r f (by simp) p λk g x c w=>?_;simp only [cL,show ¬k=i by omega,aE];obtain ⟨ok,m⟩:=tM F c;have u:=(F.loc k ok g m c).1;rcases F.apart i k o ok x z m with y | d
   ·cases e:D k with
    | false=>rfl
    | true=>have:=y D C e;rw [A] at this;cases this
   ·exact absurd (u t w) ((BY d).2.1 t (n t p))
  ·rw [ab p];refine qw recs 0 _ _ t _ λj g l q=>?_;simp only [cL];by_cases a:j=i
   ·subst a;rw [f] at l;cases l;exact absurd q p
   ·simp [a]
 ·rw [LY,vN,vN];by_cases h:b∈keys r.wr
  ·obtain ⟨v,B⟩:=pF h;rw [B,Option.some_or];symm;rw [<-B];refine DN recs 0 i _ b _ r f (by simp) h λk g x c s=>?_;simp only [cL,show ¬k=i by omega,aE];rcases F.blk i k r g x f c with y | d
   ·cases e:D k with
    | false=>rfl
    | true=>have:=y D C e;rw [A] at this;cases this
   ·exact absurd s (d.1 b h).2
  ·rw [oW h,CG];refine nr recs 0 _ _ b _ λj g l s=>?_;simp only [cL];by_cases a:j=i
   ·subst a;rw [f] at l;cases l;exact absurd s h
   ·simp [a]
theorem Bg {kk:Nat} (A:∀j,kk<=j->j<ops.length->live j) {ι0:Inj} {w0:Base} {Q:Exit->Act->World->Prop} (T:∀ι a w,Inv n ι0 w0 ι (recs.foldl St.put s0) a w->Q .normal a w):
  ∀(fuel:Nat) (c:Array Bool) (ι:Inj) (a:Act) (w:World),c.size=ops.length->(∀j,j<kk->Dn c j=true)->Down ops (Dn c)->Inv n ι0 w0 ι (appD 0 recs (Dn c) s0) a w->
   (∀i,i<ops.length->Dn c i=false->∀b,nb0+8*i<=b->b<nb0+8*i+8->ι b=none)->((List.range ops.length).filter λi=>!Dn c i).length<=fuel->
   wpAny P .any ops.toArray Q fuel c a w:=by
 have D:∀(c:Array Bool) (ι:Inj) (a:Act) (w:World),c.size=ops.length->Inv n ι0 w0 ι (appD 0 recs (Dn c) s0) a w->Region.ready .any ops.toArray c=[]->Q .normal a w:=by
  intro c ι a w q x m;have B:∀j,j<ops.length->Dn c j=true:=by
   intro j
   induction j using Nat.strongRecOn with
   | _ j ih=>
    intro v;cases M:Dn c j with
    | true=>rfl
    | false=>
     have f:ops[j]?=some ops[j]:=by simp [v]
     have R:=zg q f M λe O G=>ih e.on (F.down j _ e f O G) (by have:=F.down j _ e f O G;omega);rw [m] at R;cases R
  rw [yo recs 0 (Dn c) s0 λj v=>by simpa using B j (by rw [<-F.len];exact v)] at x;exact T ι a w x
 intro fuel
 induction fuel with
 | zero=>
  intro c ι a w q s E x u hc;have m:Region.ready .any ops.toArray c=[]:=by
   rw [List.eq_nil_iff_forall_not_mem];intro i hi;obtain ⟨o,f,g,p,_⟩:=qG q hi;have:i∈(List.range ops.length).filter λi=>!Dn c i:=by simp [g,p]
   have:=Bn this;omega
  exact ⟨m,D c ι a w q x m⟩
 | succ fuel ih=>
  intro c ι a w q s E x u hc;refine ⟨D c ι a w q x,λi hi=>?_⟩;obtain ⟨o,f,g,p,K⟩:=qG q hi;obtain ⟨r,m⟩:=u0 F f;have C:=(F.loc i o r f m).2 (A i (by rcases aF i kk with h | h;(· have:=s i h;rw [p] at this;cases this);exact h) g);have d:Dn (c.setIfInBounds i true)=λj=>if j=i then true else Dn c j:=by
   funext j;exact xb (by omega) j
  have H:=C (appD 0 recs (Dn c) s0) (λt W=>yy F E f p K W) (λb G=>xB F E f m p K G) (by rw [jW,jW]) (by rw [hO,hO]) ι0 w0 ι a w x (u i g p)
   (wpAny P .any ops.toArray Q fuel (c.setIfInBounds i true)) Q λJ S w' U V=>by
    refine ih _ J S w' (by simpa using q) (λj v=>by rw [d];simp only;split;(· rfl);exact s j v) (by rw [d];exact E.add f K) (by rw [d];exact V.eqv (xY F E f m p)) (λj v k b L N=>?_) ?_
    ·rw [d] at k;by_cases l:j=i
     ·simp [l] at k
     ·simp only [l,aE] at k;rw [U b (by omega)];exact u j v k b L N
    ·have:((List.range ops.length).filter λj=>!Dn (c.setIfInBounds i true) j).length<((List.range ops.length).filter λj=>!Dn c j).length:=by
      rw [d];have z:((List.range ops.length).filter λj=>!(if j=i then true else Dn c j))=((List.range ops.length).filter λj=>!Dn c j).filter λj=>decide (j≠i):=by
       rw [Dh];congr 1;funext j;by_cases l:j=i<;>simp [l]
      rw [z];refine EM.2 ⟨i,by simp [g,p],by simp⟩
     omega
  unfold wpOp;have I:ops.toArray[i]?=some o:=by simpa using f
  rw [I];simp only;split
  ·rename_i y;rw [ae y] at H;exact .inl H
  ·rename_i y;rw [ab y] at H;exact H
theorem L2 {lim kk:Nat} (I:lim<ops.length) (g:∀j,kk<=j->j<lim->live j/\Must ops j lim) (A:∀j,lim<j->j<ops.length->Must ops lim j) {ι0:Inj} {w0:Base} {Q:Exit->Act->World->Prop}
  (Y:∀(fuel:Nat) (c:Array Bool) (ι:Inj) (a:Act) (w:World),c.size=ops.length->(∀j,j<lim->Dn c j=true)->Dn c lim=false->Down ops (Dn c)->Down ops (Dn (c.setIfInBounds lim true))->
   Inv n ι0 w0 ι (appD 0 recs (Dn c) s0) a w->((List.range ops.length).filter λi=>!Dn c i).length<=fuel+1->wpOp P ops.toArray Q lim (wpAny P .any ops.toArray Q fuel (c.setIfInBounds lim true)) a w):
  ∀(fuel:Nat) (c:Array Bool) (ι:Inj) (a:Act) (w:World),c.size=ops.length->(∀j,j<kk->Dn c j=true)->Down ops (Dn c)->Dn c lim=false->Inv n ι0 w0 ι (appD 0 recs (Dn c) s0) a w->
   (∀i,i<ops.length->Dn c i=false->∀b,nb0+8*i<=b->b<nb0+8*i+8->ι b=none)->((List.range ops.length).filter λi=>!Dn c i).length<=fuel->
   wpAny P .any ops.toArray Q fuel c a w:=by
 have O:∀(c:Array Bool),c.size=ops.length->Dn c lim=false->Region.ready .any ops.toArray c=[]->False:=by
  intro c y q v;have E:∀j,j<ops.length->Dn c j=true:=by
   intro j
   induction j using Nat.strongRecOn with
   | _ j ih=>
    intro u;cases T:Dn c j with
    | true=>rfl
    | false=>
     have f:ops[j]?=some ops[j]:=by simp [u]
     have W:=zg y f T λe V J=>ih e.on (F.down j _ e f V J) (by have:=F.down j _ e f V J;omega);rw [v] at W;cases W
  rw [E lim I] at q;cases q
 intro fuel
 induction fuel with
 | zero=>
  intro c ι a w y l p q S s hc;have:lim∈(List.range ops.length).filter λi=>!Dn c i:=by simp [I,q]
  have:=Bn this;omega
 | succ fuel ih=>
  intro c ι a w y l p q S s hc;refine ⟨λv=>(O c y q v).elim,λi hi=>?_⟩;obtain ⟨o,f,z,x,C⟩:=qG y hi;obtain ⟨r,v⟩:=u0 F f;have d:Dn (c.setIfInBounds i true)=λj=>if j=i then true else Dn c j:=by
   funext j;exact xb (by omega) j
  by_cases H:i=lim
  ·subst H;refine Y fuel c ι a w y (λj u=>?_) x p (by rw [d];exact p.add f C) S hc;rcases aF j kk with h | h
   ·exact l j h
   ·exact (g j h u).2.in p f C (by omega)
  have L:ops.toArray[i]?=some o:=by simpa using f
  unfold wpOp;rw [L];simp only;have hlt':i<lim:=by
   rcases aF i lim with h | h
   ·exact h
   ·have:=(A i (by omega) z).in p f C (λe=>H e.symm);rw [q] at this;cases this
  have M:kk<=i:=by
   rcases aF i kk with h | h
   ·have:=l i h;rw [x] at this;cases this
   ·exact h
  have G:=(F.loc i o r f v).2 (g i M hlt').1
  have K:=G (appD 0 recs (Dn c) s0) (λt ht=>yy F p f x C ht) (λb J=>xB F p f v x C J) (by rw [jW,jW]) (by rw [hO,hO]) ι0 w0 ι a w S (s i z x)
   (wpAny P .any ops.toArray Q fuel (c.setIfInBounds i true)) Q λN X w' Z g2=>by
    refine ih _ N X w' (by simpa using y) (λj u=>by rw [d];simp only;split;(· rfl);exact l j u) (by rw [d];exact p.add f C) (by rw [d];simp only [show ¬lim=i by omega,aE];exact q) (by rw [d];exact g2.eqv (xY F p f v x)) (λj u k b R U=>?_) ?_
    ·rw [d] at k;by_cases m:j=i
     ·simp [m] at k
     ·simp only [m,aE] at k;rw [Z b (by omega)];exact s j u k b R U
    ·have:((List.range ops.length).filter λj=>!Dn (c.setIfInBounds i true) j).length<((List.range ops.length).filter λj=>!Dn c j).length:=by
      rw [d];have D:((List.range ops.length).filter λj=>!(if j=i then true else Dn c j))=((List.range ops.length).filter λj=>!Dn c j).filter λj=>decide (j≠i):=by
       rw [Dh];congr 1;funext j;by_cases m:j=i<;>simp [m]
      rw [D];refine EM.2 ⟨i,by simp [z,x],by simp⟩
     omega
  split
  ·rename_i B;rw [ae B] at K;exact .inl K
  ·rename_i B;rw [ab B] at K;exact K
theorem Kv {lim:Nat} {ι0:Inj} {w0:Base} {Q:Exit->Act->World->Prop} {T:Oper} {pr:Rec} {v:V} {wr:List (Nat×Blk)} (g:ops[lim]?=some T) (K:recs[lim]?=some pr)
  (W:wO P n nb0 ops lim T v wr pr.rd (appD 0 recs (λm=>decide (m<lim)) s0))
  (C:∀j,j<ops.length->j≠lim->live j\/Must ops lim j)
  (hQ:∀D,Down ops D->(∀e∈T.after.toList,Region.binds .any e=true->D e.on=true)->D lim=false->∀ι x a w,VR ι v x->Inv n ι0 w0 ι ((appD 0 recs D s0).app none none wr s0.nb) a w->Q (.panic [{ v:=x,recovered:=false }]) a w):
  ∀(fuel:Nat) (c:Array Bool) (ι:Inj) (a:Act) (w:World),c.size=ops.length->Down ops (Dn c)->Dn c lim=false->Inv n ι0 w0 ι (appD 0 recs (Dn c) s0) a w->
   (∀i,i<ops.length->Dn c i=false->∀b,nb0+8*i<=b->b<nb0+8*i+8->ι b=none)->((List.range ops.length).filter λi=>!Dn c i).length<=fuel->
   wpAny P .any ops.toArray Q fuel c a w:=by
 have M:lim<ops.length:=by
  rcases aF lim ops.length with X | X
  ·exact X
  ·rw [fU X] at g;cases g
 have Y:∀(c:Array Bool),c.size=ops.length->Dn c lim=false->Region.ready .any ops.toArray c=[]->False:=by
  intro c H y l;have J:∀j,j<ops.length->Dn c j=true:=by
   intro j
   induction j using Nat.strongRecOn with
   | _ j ih=>
    intro U;cases hDj:Dn c j with
    | true=>rfl
    | false=>
     have f:ops[j]?=some ops[j]:=by simp [U]
     have O:=zg H f hDj λe he G=>ih e.on (F.down j _ e f he G) (by have:=F.down j _ e f he G;omega);rw [l] at O;cases O
  rw [J lim M] at y;cases y
 intro fuel
 induction fuel with
 | zero=>
  intro c ι a w H u y hI k hc;have:lim∈(List.range ops.length).filter λi=>!Dn c i:=by simp [M,y]
  have:=Bn this;omega
 | succ fuel ih=>
  intro c ι a w H u y hI k hc;refine ⟨λl=>(Y c H y l).elim,λi hi=>?_⟩;obtain ⟨o,f,q,p,A⟩:=qG H hi;obtain ⟨r,l⟩:=u0 F f;have S:ops.toArray[i]?=some o:=by simpa using f
  unfold wpOp;rw [S];simp only;by_cases B:i=lim
  case neg=>
   rcases C i q B with hlv | O
   case inr=>
    have:=O.in u f A (λe=>B e.symm);rw [y] at this;cases this
   have L:=(F.loc i o r f l).2 hlv;have d:Dn (c.setIfInBounds i true)=λj=>if j=i then true else Dn c j:=by
    funext j;exact xb (by omega) j
   have N:=L (appD 0 recs (Dn c) s0) (λt ht=>yy F u f p A ht) (λb G=>xB F u f l p A G) (by rw [jW,jW]) (by rw [hO,hO]) ι0 w0 ι a w hI (k i q p)
    (wpAny P .any ops.toArray Q fuel (c.setIfInBounds i true)) Q λz a' w' g1 R=>by
     refine ih _ z a' w' (by simpa using H) (by rw [d];exact u.add f A) (by rw [d];simp only [show ¬lim=i by omega,aE];exact y) (by rw [d];exact R.eqv (xY F u f l p)) (λj U h b Z hb2=>?_) ?_
     ·rw [d] at h;by_cases s:j=i
      ·simp [s] at h
      ·simp only [s,aE] at h;rw [g1 b (by omega)];exact k j U h b Z hb2
     ·have:((List.range ops.length).filter λj=>!Dn (c.setIfInBounds i true) j).length<((List.range ops.length).filter λj=>!Dn c j).length:=by
       rw [d];have I:((List.range ops.length).filter λj=>!(if j=i then true else Dn c j))=((List.range ops.length).filter λj=>!Dn c j).filter λj=>decide (j≠i):=by
        rw [Dh];congr 1;funext j;by_cases s:j=i<;>simp [s]
       rw [I];refine EM.2 ⟨i,by simp [q,p],by simp⟩
      omega
   split
   ·rename_i E;rw [ae E] at N;exact .inl N
   ·rename_i E;rw [ab E] at N;exact N
  case pos=>
   subst B;rw [g] at f;cases f;rw [K] at l;cases l
   obtain ⟨q1,q2⟩:=W (appD 0 recs (Dn c) s0) (λt ht=>yy F u g p A ht) (λb G=>xB F u g K p A G) (by rw [jW,jW]) (by rw [hO,hO]) ι0 w0 ι a w hI (k i q p)
    (wpAny P .any ops.toArray Q fuel (c.setIfInBounds i true)) Q λz x w' g1 R=>hQ _ u A p z x a w' g1 (by rw [jW] at R;exact R)
   rw [ae q1];exact .inl q2
end
theorem A4:∀{l:List Nat} {j:Nat},l.length<=j->getN l j=0
 | [],_,_=>rfl
 | _::_,0,h=>by simp at h
 | _::l,j+1,h=>A4 (l:=l) (by simpa using h)
theorem qa:∀{l m:List Nat} {j:Nat},j<l.length->getN (l++m) j=getN l j
 | [],_,_,h=>by simp at h
 | _::_,_,0,_=>rfl
 | _::l,m,j+1,h=>qa (l:=l) (m:=m) (by simpa using h)
theorem pW:∀(l:List Nat) (x:Nat),getN (l++[x]) l.length=x
 | [],_=>rfl
 | _::l,x=>pW l x
theorem qA (b:List Nat):∀(l:List Edge) (s i:Nat),(Af b l s).testBit i=true->s.testBit i=true\/∃e∈l,Region.binds .any e=true/\(e.on=i\/(getN b e.on).testBit i=true)
 | [],s,i,h=>.inl h
 | e::l,s,i,h=>by
  simp only [Af] at h;split at h
  ·rename_i g;rcases qA b l _ i h with a | ⟨d,c,f⟩
   ·simp only [Nat.testBit_or,gv] at a;rcases a with (a | a) | a
    ·exact .inl a
    ·refine .inr ⟨e,by simp,g,.inl ?_⟩;rw [Nat.testBit_two_pow] at a;simpa using a
    ·exact .inr ⟨e,by simp,g,.inr a⟩
   ·exact .inr ⟨d,gk _ c,f⟩
  ·rcases qA b l _ i h with a | ⟨d,c,f⟩
   ·exact .inl a
   ·exact .inr ⟨d,gk _ c,f⟩
theorem nI (ops:List Oper):∀(r:List Oper) (a:List Nat),(∀j,r[j]?=ops[a.length+j]?)->(∀j i,(getN a j).testBit i=true->Must ops i j)->
  ∀j i,(getN (jI r a) j).testBit i=true->Must ops i j
 | [],a,_,h=>h
 | o::r,a,m,h=>by
  simp only [jI];refine nI ops r _ (λj=>by have:=m (j+1);simp only [Dy] at this;rw [this];simp;congr 1;omega) λj i b=>?_;rcases CJ j a.length with g | d | q
  ·rw [qa g] at b;exact h j i b
  ·subst d;rw [pW] at b;have s:ops[a.length]?=some o:=by have:=m 0;simpa using this.symm
   rcases qA a _ _ _ b with c | ⟨e,p,f,c⟩
   ·simp at c
   ·intro D n k;have l:=n a.length o e s k p f;rcases c with rfl | c
    ·exact l
    ·exact h e.on i c D n l
  ·rw [A4 (by simp;omega)] at b;simp at b
theorem iK:∀(l:List Oper) (i:Nat),oZ i l=true->∀(j:Nat) (o:Oper) (e:Edge),l[j]?=some o->e∈o.after.toList->Region.binds .any e=true->e.on<i+j
 | [],_,_,_,_,_,h,_,_=>by simp at h
 | o::l,i,h,j,d,e,a,c,b=>by
  simp only [oZ,aA,bS] at h;cases j with
  | zero=>
   simp only [kD,aq] at a;subst a;have:=h.1 e c;simp only [b,cV,nP] at this;exact aH this
  | succ j=>have:=iK l (i+1) h.2 j d e (by simpa using a) c b;omega
theorem pO {ops:Array Oper} {o:Oper} {a:Nat}:∀(l:List Oper) (i:Nat),rl ops o a i l=true->∀(j:Nat) (p:Oper),l[j]?=some p->a.testBit (i+j)=true\/p.apart ops o=true
 | [],_,_,_,_,h=>by simp at h
 | q::l,i,h,j,p,b=>by
  simp only [rl,aA,gv] at h;cases j with
  | zero=>simp only [kD,aq] at b;subst b;exact h.1
  | succ j=>have:=pO l (i+1) h.2 j p (by simpa using b);rwa [show i+1+j=i+(j+1) by omega] at this
theorem k9 {ops:Array Oper} {masks:List Nat}:∀(l a:List Oper),qR ops masks a.length a l=true->∀(i j:Nat) (x y:Oper),i<a.length+j->(a++l)[i]?=some x->l[j]?=some y->
  (getN masks (a.length+j)).testBit i=true\/x.apart ops y=true
 | [],_,_,_,_,_,_,_,_,h=>by simp at h
 | o::l,a,h,i,j,x,y,hi,b,c=>by
  simp only [qR,aA] at h;cases j with
  | zero=>
   simp only [kD,aq] at c;subst c;have:=pO a 0 h.1 i x (by rw [lJ (by simpa using hi)] at b;exact b);simpa using this
  | succ j=>
   have d:=h.2;rw [show a.length+1=(a++[o]).length by simp] at d;have:=k9 l (a++[o]) d i j x y (by simp;omega) (by simpa using b) (by simpa using c);rwa [show (a++[o]).length+j=a.length+(j+1) by simp;omega] at this
theorem oI {masks:List Nat}:∀{tr:List TE},mZ masks tr=true->∀x∈tr,∀y∈tr,x.i<y.i->vq masks x y=true\/vq masks y x=true
 | [],_,x,d,_,_,_=>by cases d
 | z::l,h,x,d,y,e,c=>by
  simp only [mZ,aA,bS] at h;rcases cq.1 d with b | b
  ·subst b;rcases cq.1 e with a | a
   ·subst a;omega
   ·exact .inl (h.1 y a)
  ·rcases cq.1 e with a | a
   ·subst a;exact .inr (h.1 x b)
   ·exact oI h.2 x b y a c
theorem vc {x y:TE} (h:Oy x y=false):(∀b∈x.ws,b∉y.rd/\b∉y.ws)/\∀b∈x.rd,b∉y.ws:=by
 simp only [Oy,mB,pZ,gv,not_or,List.contains_iff_mem] at h;exact ⟨λb a=>h.1 b a,λb a=>h.2 b a⟩
theorem zD {masks:List Nat} {x y:TE} (h:vq masks x y=true\/vq masks y x=true) (d:x.i<y.i):
  (getN masks y.i).testBit x.i=true\/((∀b∈x.ws,b∉y.rd/\b∉y.ws)/\∀b∈x.rd,b∉y.ws):=by
 have k:Nat.blt x.i y.i=true:=dn d;have f:Nat.blt y.i x.i=false:=by
  cases j:Nat.blt y.i x.i with
  | false=>rfl
  | true=>have:y.i<x.i:=aH j;omega
 rcases h with h | h
 ·simp only [vq,k,aj,gv,jL] at h;exact h.imp id vc
 ·simp only [vq,f,af,gv,jL] at h;refine h.imp id λh=>?_;obtain ⟨a,b⟩:=vc h;exact ⟨λc hc=>⟨λg=>b c g hc,λe=>(a c e).2 hc⟩,λc hc e=>(a c e).1 hc⟩
theorem sj:∀(ops:List Oper) {T:List (Nat×Option V)} (t:Nat) (v:V),look (Gl ops T) t=some (some v)->(∀o∈ops,o.dst≠some t)/\look T t=some (some v)
 | [],T,t,v,h=>⟨by simp,h⟩
 | o::l,T,t,v,h=>by
  simp only [Gl] at h;split at h
  ·rename_i d b;rw [aP] at h;split at h
   ·cases h
   ·rename_i g;obtain ⟨f,c⟩:=sj l t v h;refine ⟨λx a=>?_,c⟩;rcases cq.1 a with rfl | a
    ·rw [b];intro e;cases e;exact g rfl
    ·exact f x a
  ·rename_i b;obtain ⟨f,c⟩:=sj l t v h;refine ⟨λx a=>?_,c⟩;rcases cq.1 a with rfl | a
   ·rw [b];intro e;cases e
   ·exact f x a
theorem FU {α:Type} {E:List Ent} (hE:∀x∈E,fO P x) {n:Nat} {ops:List Oper} {s:St} {k:Ex->St->Option α} {z:α} (h:Bq P E n ops s k=some z) (id:Nat):
  SemC P n (.region id ops.toArray true) s λex s'=>k ex s'=some z:=by
 intro ι0 w0 ι a w hI;unfold Bq at h;split at h
 case h_2=>cases h
 rename_i hok;simp only [aA,DY] at hok;obtain ⟨⟨hb1,hb2,_⟩,V⟩:=hok;have g:=nI ops ops [] (by simp) (λj i u=>by simp [getN] at u);have hI1:Inv n ι0 w0 ι { s with nb:=s.nb+8*ops.length } a { w with drawn:=w.drawn+1 }:=by
  have d:=hI.drawn (w.drawn+1);exact ⟨d.size,d.defers,d.tmps,⟨d.mem.inj,λb r u=>by have:=d.mem.low b r u;simp only;omega,d.mem.dom,d.mem.blk⟩,d.ext,d.new,d.fr,d.low,d.fz,d.gl⟩
 have L:∀i,Dn (Array.replicate ops.toArray.size false) i=false:=by
  intro i;unfold Dn;simp only [oy,Q0];split<;>rfl
 have hno:∀(l:List Rec) (i:Nat) (D:Nat->Bool) (s:St),(∀j,D j=false)->appD i l D s=s:=by
  intro l
  induction l with
  | nil=>intros;rfl
  | cons r l ih=>intro i D s hD;simp only [appD,hD i,bq,aE];exact ih _ D s hD
 have G:∀(trf:List TE) (x y:Rec) (i j:Nat),mZ (jI ops []) (trf.filter λx=>!(x.rd.isEmpty&&x.ws.isEmpty))=true->i<j->((⟨0+i,x.rd,keys x.wr⟩:TE)∈trf\/(x.rd=[]/\x.wr=[]))->((⟨0+j,y.rd,keys y.wr⟩:TE)∈trf\/(y.rd=[]/\y.wr=[]))->
   Must ops i j\/((∀b∈keys x.wr,b∉y.rd/\b∉keys y.wr)/\∀b∈x.rd,b∉keys y.wr):=by
  intro trf x y i j J C B I;rcases B with hxm | ⟨hx1,hx2⟩
  ·rcases I with hym | ⟨hy1,hy2⟩
   ·simp only [cL] at hxm hym;by_cases W:(x.rd=[]/\x.wr=[])
    ·exact .inr (by simp [W.1,W.2,keys])
    ·by_cases he2:(y.rd=[]/\y.wr=[])
     ·exact .inr (by simp [he2.1,he2.2,keys])
     ·have m1:(⟨i,x.rd,keys x.wr⟩:TE)∈trf.filter λx=>!(x.rd.isEmpty&&x.ws.isEmpty):=by
       refine jX.2 ⟨hxm,?_⟩;simp only [keys,jL,zq,Eg];rcases DL (x.rd=[]) with h | h
       ·exact .inr (by simpa using λhw=>W ⟨h,hw⟩)
       ·exact .inl h
      have m2:(⟨j,y.rd,keys y.wr⟩:TE)∈trf.filter λx=>!(x.rd.isEmpty&&x.ws.isEmpty):=by
       refine jX.2 ⟨hym,?_⟩;simp only [keys,jL,zq,Eg];rcases DL (y.rd=[]) with h | h
       ·exact .inr (by simpa using λhw=>he2 ⟨h,hw⟩)
       ·exact .inl h
      have:=zD (oI J _ m1 _ m2 C) C;exact this.imp (g j i) λh=>h
   ·exact .inr (by simp [hy1,hy2,keys])
  ·exact .inr (by simp [hx1,hx2,keys])
 rcases yZ hE ops 0 _ [] (by simp) h with ⟨recs,S,trf,g1,U,R,_,g5,g6⟩ | ⟨p,po,recs,S,sp,trf,v,wr,rp,g1,g0,gr,gd,gw,rfl,U,R,_,g7,g5,g6⟩
 ·split at U
  case h_2=>cases U
  rename_i J;have F:DrawFacts P n s.nb ops recs { s with nb:=s.nb+8*ops.length } (λ_=>True):=by
   refine ⟨g1,rfl,λj o r Q Z=>?_,λj o e Q he u=>?_,λi j x y C B I=>?_,λi j x y C B I=>?_⟩
   ·obtain ⟨p1,p2⟩:=g6 j o r Q Z;simp only [cL] at p2;have e:=om recs 0 j { s with nb:=s.nb+8*ops.length };simp only [cL] at e;exact ⟨λt ht=>p1▸ht,λ_=>p2.eqv e⟩
   ·have:=iK ops 0 hb1 j o e Q he u;omega
   ·have:=k9 (masks:=jI ops []) ops [] hb2 i j x y (by simpa using C) (by simpa using B) I;simp only [dR,cL] at this;exact this.imp (g j i) λh=>h
   ·exact G trf x y i j J C (g5 i x B) (g5 j y I)
  refine wp_region_any V (Bg (kk:=0) F (λ_ _ _=>trivial) (λK a' w' f=>⟨.normal,S,K,rfl,f.eqv R.symm,U⟩) _ _ ι a _ (by simp) (λj X=>by omega) (λj o e _ N=>by rw [L j] at N;cases N) (by rw [hno recs 0 _ _ L];exact hI1) (λi _ _ b u _=>?_) ?_)
  ·exact hI.fresh b (by omega)
  ·have:=Dz (λi=>!Dn (Array.replicate ops.toArray.size false) i) (List.range ops.length);simpa using this
 ·split at U
  case h_2=>cases U
  rename_i hpk;simp only [aA,Qa] at hpk;obtain ⟨hw,J⟩:=hpk;simp only [cL] at U g7 hw;have C:p<ops.length:=by
   rcases aF p ops.length with h' | h'
   ·exact h'
   ·rw [fU h'] at g0;cases g0
  have A:∀i r,recs[i]?=some r->i≠p->(i<p/\Must ops i p)\/r.wr=[]:=by
   intro i r Z O;rcases g5 i r Z O with B | B
   ·have:=(bS.1 hw) _ B;simp only [cL,gv,aA] at this;rcases this with h | h
    ·right;simpa [keys] using h
    ·exact .inl ⟨aH h.1,g p i h.2⟩
   ·exact .inr B.2
  have g5':∀(j:Nat) (r:Rec),recs[j]?=some r->j≠p->(⟨0+j,r.rd,keys r.wr⟩:TE)∈trf\/(r.rd=[]/\r.wr=[]):=g5;have F:DrawFacts P n s.nb ops recs { s with nb:=s.nb+8*ops.length } (λj=>j<p\/(p<j/\(getN (jI ops []) (0+j)).testBit (0+p)=false)):=by
   refine ⟨g1,rfl,λj o r Q Z=>?_,λj o e Q he u=>?_,λi j x y Y B I=>?_,λi j x y Y B I=>?_⟩
   ·obtain ⟨p1,p2⟩:=g6 j o r Q Z;have e:=om recs 0 j { s with nb:=s.nb+8*ops.length };simp only [cL] at e p2 ⊢;exact ⟨λt ht=>p1▸ht,λhc=>(p2 hc).eqv e⟩
   ·have:=iK ops 0 hb1 j o e Q he u;omega
   ·have:=k9 (masks:=jI ops []) ops [] hb2 i j x y (by simpa using Y) (by simpa using B) I;simp only [dR,cL] at this;exact this.imp (g j i) λh=>h
   ·by_cases O:i=p
    ·
     subst O;rw [gr] at B;cases B;rcases A j y I (by omega) with ⟨h,_⟩ | h
     ·omega
     ·exact .inr (by simp [gw,h,keys])
    ·by_cases M:j=p
     ·subst M;rw [gr] at I;cases I;rcases A i x B O with ⟨_,h⟩ | h
      ·exact .inl h
      ·exact .inr (by simp [gw,h,keys])
     ·exact G trf x y i j J Y (g5 i x B O) (g5 j y I M)
  have c:Eqv ((recs.take p).foldl St.put { s with nb:=s.nb+8*ops.length }) (appD 0 recs (λm=>decide (m<p)) { s with nb:=s.nb+8*ops.length }):=by
   have e:=om recs 0 p { s with nb:=s.nb+8*ops.length };simpa using e
  have hdead:∀j,j<ops.length->j≠p->(j<p\/(p<j/\(getN (jI ops []) (0+j)).testBit (0+p)=false))\/Must ops p j:=by
   intro j _ hne;cases u:(getN (jI ops []) (0+j)).testBit (0+p) with
   | false=>exact .inl ((Nat.lt_or_gt_of_ne hne).imp (λh=>h) λh=>⟨h,rfl⟩)
   | true=>simp only [cL] at u;exact .inr (g j p u)
  refine wp_region_any V (Kv F g0 gr (g7.eqv c) hdead (λD hD hd hn K x a' w' hv f=>⟨.pan v,_,K,⟨x,rfl,hv⟩,?inv,U⟩) _ _ ι a _ (by simp) (λj o e _ N=>by rw [L j] at N;cases N) (L p) (by rw [hno _ 0 _ _ L];exact hI1) (λi _ _ b u _=>?fresh) ?len)
  case inv=>
   have hH:∀b,look S.H b=look (appD 0 recs D { s with nb:=s.nb+8*ops.length }).H b:=by
    intro b;rw [R.H,c.H,vN,vN];refine nr _ 0 _ _ b _ λj r X u=>?_;simp only [cL];by_cases M:j=p
    ·subst M;rw [gr] at X;cases X;rw [gw] at u;simp [keys] at u
    ·rcases A j r X M with ⟨d,hm⟩ | hm
     ·rw [hm.in hD g0 hd (by omega)];simp [d]
     ·rw [hm] at u;simp [keys] at u
   have hT:∀t v,look (Gl ops s.T) t=some (some v)->look (appD 0 recs D { s with nb:=s.nb+8*ops.length }).T t=some (some v):=by
    intro t v ht;obtain ⟨d,h2⟩:=sj ops t v ht;rw [xi,wC _ 0 D t _ λj r X Z=>?_]
    ·exact h2
    ·exfalso;obtain ⟨o,Q⟩:=tM F X;exact d o (fD Q) ((F.loc j o r Q X).1 t Z)
   refine ⟨f.size,f.defers,λt v ht=>f.tmps t v (hT t v ht),⟨f.mem.inj,λb r u=>?_,f.mem.dom,λb blk hl hdd=>f.mem.blk b blk ?_ hdd⟩,?_,f.new,?_,λb r u=>?_,?_,?_⟩
   ·have:=f.mem.low b r u;have e:=R.nb.trans c.nb;rw [jW] at e;show b<S.nb;rw [e];exact this
   ·show look (wr++(appD 0 recs D { s with nb:=s.nb+8*ops.length }).H) b=_;rw [nM,<-hH b,<-nM];exact hl
   ·have e:=R.rb.trans c.rb;rw [us] at e;have d:=f.ext;show ∀b q,ι0 b=some q->K b=some q\/S.rb<=b;rw [e];simp only [St.app,us] at d;exact d
   ·have e:=R.ro.trans c.ro;rw [hO] at e;have d:=f.fr;show Fr (roI ι0 S.ro) w0.w w';rw [e];simp only [St.app,hO] at d;exact d
   ·have e:=R.lo.trans c.lo;rw [vS] at e;have d:=f.low b r u;show b<S.lo;rw [e];simp only [St.app,vS] at d;exact d
   ·have e:=R.ro.trans c.ro;rw [hO] at e;have d:=f.fz;show ∀b q,K b=some (some q)->q.fz=true->b<S.ro;rw [e];simp only [St.app,hO] at d;exact d
   ·have e:=R.ro.trans c.ro;rw [hO] at e;have d:=f.gl;show GL (roI ι0 S.ro) w0.w;rw [e];simp only [St.app,hO] at d;exact d
  case fresh=>exact hI.fresh b (by omega)
  case len=>
   have:=Dz (λi=>!Dn (Array.replicate ops.toArray.size false) i) (List.range ops.length);simpa using this
end Go.Abs
