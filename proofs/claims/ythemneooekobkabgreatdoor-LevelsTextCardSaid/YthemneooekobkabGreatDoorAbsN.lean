
/- A region that draws its order: where what is unordered does not meet, every order comes to what the order of the text comes to.
   Conditions: none; generic over the program. -/
import Derived.Test.YthemneooekobkabGreatDoorAbsM
set_option linter.unusedSimpArgs false
set_option linter.unusedVariables false
namespace Go.Abs
variable {P:Program}
structure Rec where
 dst:Option Nat
 val:Option V
 wr:List (Nat×Blk)
 rd:List Nat
def St.put (s:St) (r:Rec):St:=s.app r.dst r.val r.wr s.nb
def keys (wr:List (Nat×Blk)):List Nat:=wr.map (·.1)
theorem pV {α:Type} (l m:List (Nat×α)) (n:Nat):look (l++m) n=(look l n).or (look m n):=by
 induction l with
 | nil=>rfl
 | cons x l ih=>
  obtain ⟨k,v⟩:=x;rw [fg,aV,aV];split
  ·rfl
  ·exact ih
theorem qP {α:Type} {l:List (Nat×α)} {n:Nat} (h:n∉l.map (·.1)):look l n=none:=by
 induction l with
 | nil=>rfl
 | cons x l ih=>
  obtain ⟨k,v⟩:=x;simp only [gf,cL,not_or] at h;rw [aV,ab (λe=>h.1 e.symm)];exact ih h.2
theorem sd {α:Type} {l:List (Nat×α)} {n:Nat} (h:n∈l.map (·.1)):∃v,look l n=some v:=by
 induction l with
 | nil=>simp at h
 | cons x l ih=>
  obtain ⟨k,v⟩:=x;rw [aV];split
  ·exact ⟨v,rfl⟩
  ·rename_i a;simp only [gf,cL] at h;exact ih (h.resolve_left λe=>a e.symm)
theorem Po (s:St) (r:Rec) (t:Nat):look (s.put r).T t=if r.dst=some t then some r.val else look s.T t:=by
 unfold St.put St.app;cases a:r.dst with
 | none=>simp
 | some d=>
  simp only [aV];by_cases h:d=t
  ·subst h;simp
  ·simp [h]
theorem Oy (s:St) (r:Rec) (b:Nat):look (s.put r).H b=(look r.wr b).or (look s.H b):=pV _ _ _
theorem Uu (s:St) (r:Rec):(s.put r).nb=s.nb:=rfl
structure Eqv (s s':St):Prop where
 T:∀t,look s.T t=look s'.T t
 H:∀b,look s.H b=look s'.H b
 nb:s.nb=s'.nb
 lo:s.lo=s'.lo
 ro:s.ro=s'.ro
 rb:s.rb=s'.rb
theorem Eqv.refl (s:St):Eqv s s:=⟨λ_=>rfl,λ_=>rfl,rfl,rfl,rfl,rfl⟩
theorem Eqv.symm {s s':St} (h:Eqv s s'):Eqv s' s:=⟨λt=>(h.T t).symm,λb=>(h.H b).symm,h.nb.symm,h.lo.symm,h.ro.symm,h.rb.symm⟩
theorem Eqv.trans {a b c:St} (h:Eqv a b) (k:Eqv b c):Eqv a c:=⟨λt=>(h.T t).trans (k.T t),λt=>(h.H t).trans (k.H t),h.nb.trans k.nb,h.lo.trans k.lo,h.ro.trans k.ro,h.rb.trans k.rb⟩
theorem Eqv.put {s s':St} (h:Eqv s s') (r:Rec):Eqv (s.put r) (s'.put r):=
 ⟨λt=>by rw [Po,Po,h.T],λb=>by rw [Oy,Oy,h.H],h.nb,h.lo,h.ro,h.rb⟩
theorem Eqv.puts:∀(l:List Rec) {s s':St},Eqv s s'->Eqv (l.foldl St.put s) (l.foldl St.put s')
 | [],_,_,h=>h
 | r::l,_,_,h=>Eqv.puts l (h.put r)
theorem Inv.eqv {n:Nat} {ι0 ι:Inj} {w0:Base} {s s':St} {a:Act} {w:World} (h:Inv n ι0 w0 ι s a w) (e:Eqv s s'):Inv n ι0 w0 ι s' a w:=
 ⟨h.size,h.defers,λt v F=>h.tmps t v (by rw [e.T];exact F),⟨h.mem.inj,λb r C=>by rw [<-e.nb];exact h.mem.low b r C,h.mem.dom,λb blk G E=>h.mem.blk b blk (by rw [e.H];exact G) E⟩,by rw [<-e.rb];exact h.ext,h.new,by rw [<-e.ro];exact h.fr,λb r C=>by rw [<-e.lo];exact h.low b r C,by rw [<-e.ro];exact h.fz,by rw [<-e.ro];exact h.gl⟩
def appD:Nat->List Rec->(Nat->Bool)->St->St
 | _,[],_,s=>s
 | i,r::l,D,s=>appD (i+1) l D (if D i=true then s.put r else s)
def xl:Nat->List Rec->(Nat->Bool)->Nat->Option (Option V)->Option (Option V)
 | _,[],_,_,x=>x
 | i,r::l,D,t,x=>xl (i+1) l D t (if D i=true/\r.dst=some t then some r.val else x)
def wJ:Nat->List Rec->(Nat->Bool)->Nat->Option Blk->Option Blk
 | _,[],_,_,x=>x
 | i,r::l,D,b,x=>wJ (i+1) l D b (if D i=true then (look r.wr b).or x else x)
theorem zr:∀(l:List Rec) (i:Nat) (D:Nat->Bool) (s:St) (t:Nat),look (appD i l D s).T t=xl i l D t (look s.T t)
 | [],_,_,_,_=>rfl
 | r::l,i,D,s,t=>by
  simp only [appD,xl,zr l];congr 1;cases D i
  ·simp
  ·simp only [jN,aL];rw [Po]
theorem xZ:∀(l:List Rec) (i:Nat) (D:Nat->Bool) (s:St) (b:Nat),look (appD i l D s).H b=wJ i l D b (look s.H b)
 | [],_,_,_,_=>rfl
 | r::l,i,D,s,b=>by
  simp only [appD,wJ,xZ l];congr 1;cases D i
  ·simp
  ·simp only [aL];rw [Oy]
theorem lR:∀(l:List Rec) (i:Nat) (D:Nat->Bool) (s:St),(appD i l D s).nb=s.nb
 | [],_,_,_=>rfl
 | r::l,i,D,s=>by
  simp only [appD,lR l];split<;>rfl
theorem jo:∀(l:List Rec) (i:Nat) (D:Nat->Bool) (s:St),(appD i l D s).ro=s.ro
 | [],_,_,_=>rfl
 | r::l,i,D,s=>by
  simp only [appD,jo l];split<;>rfl
theorem xP:∀(l:List Rec) (i:Nat) (D:Nat->Bool) (s:St),(appD i l D s).lo=s.lo
 | [],_,_,_=>rfl
 | r::l,i,D,s=>by
  simp only [appD,xP l];split<;>rfl
theorem xN:∀(l:List Rec) (i:Nat) (D:Nat->Bool) (s:St),(appD i l D s).rb=s.rb
 | [],_,_,_=>rfl
 | r::l,i,D,s=>by
  simp only [appD,xN l];split<;>rfl
theorem tM:∀(l:List Rec) (i:Nat) (D a:Nat->Bool) (t:Nat) (x:Option (Option V)),(∀j r,l[j]?=some r->r.dst=some t->D (i+j)=a (i+j))->xl i l D t x=xl i l a t x
 | [],_,_,_,_,_,_=>rfl
 | r::l,i,D,a,t,x,h=>by
  simp only [xl];have c:=h 0 r (by simp);simp only [cP] at c;rw [tM l (i+1) D a t _ λj f d e=>by have:=h (j+1) f (by simpa using d) e;rwa [show i+(j+1)=i+1+j by omega] at this];congr 1;by_cases b:r.dst=some t
  ·rw [c b]
  ·simp [b]
theorem zF (l:List Rec) (i:Nat) (D:Nat->Bool) (t:Nat) (x:Option (Option V)) (h:∀j r,l[j]?=some r->r.dst=some t->D (i+j)=false):xl i l D t x=x:=by
 induction l generalizing i x with
 | nil=>rfl
 | cons r l ih=>
  simp only [xl];have b:=h 0 r (by simp);simp only [cP] at b;have:¬(D i=true/\r.dst=some t):=λ⟨a,d⟩=>by rw [b d] at a;cases a
  rw [ab this];exact ih (i+1) x λj f c e=>by have:=h (j+1) f (by simpa using c) e;rwa [show i+(j+1)=i+1+j by omega] at this
theorem HV:∀(l:List Rec) (i j:Nat) (D:Nat->Bool) (t:Nat) (x:Option (Option V)) (r:Rec),l[j]?=some r->D (i+j)=true->r.dst=some t->
  (∀k b,j<k->l[k]?=some b->b.dst=some t->D (i+k)=false)->xl i l D t x=some r.val
 | [],_,_,_,_,_,_,h,_,_,_=>by simp at h
 | r0::l,i,0,D,t,x,r,h,d,c,a=>by
  simp only [mL,au] at h;subst h;simp only [cP] at d;simp only [xl];rw [ae ⟨d,c⟩];exact zF l (i+1) D t _ λk b f e=>by have:=a (k+1) b (by omega) (by simpa using f) e;rwa [show i+(k+1)=i+1+k by omega] at this
 | r0::l,i,j+1,D,t,x,r,h,d,c,a=>by
  simp only [xl]
  exact HV l (i+1) j D t _ r (by simpa using h) (by rwa [show i+1+j=i+(j+1) by omega]) c λk b f g e=>by
   have:=a (k+1) b (by omega) (by simpa using g) e;rwa [show i+(k+1)=i+1+k by omega] at this
theorem qh:∀(l:List Rec) (i:Nat) (D a:Nat->Bool) (b:Nat) (x:Option Blk),(∀j r,l[j]?=some r->b∈keys r.wr->D (i+j)=a (i+j))->wJ i l D b x=wJ i l a b x
 | [],_,_,_,_,_,_=>rfl
 | r::l,i,D,a,b,x,h=>by
  simp only [wJ];have d:=h 0 r (by simp);simp only [cP] at d;rw [qh l (i+1) D a b _ λj g e f=>by have:=h (j+1) g (by simpa using e) f;rwa [show i+(j+1)=i+1+j by omega] at this];congr 1;by_cases c:b∈keys r.wr
  ·rw [d c]
  ·simp [qP c]
theorem Jd (l:List Rec) (i:Nat) (D:Nat->Bool) (b:Nat) (x:Option Blk) (h:∀j r,l[j]?=some r->b∈keys r.wr->D (i+j)=false):wJ i l D b x=x:=by
 induction l generalizing i x with
 | nil=>rfl
 | cons r l ih=>
  simp only [wJ];have c:=h 0 r (by simp);simp only [cP] at c;have:(if D i=true then (look r.wr b).or x else x)=x:=by
   by_cases a:b∈keys r.wr
   ·rw [c a];simp
   ·rw [qP a];simp
  rw [this];exact ih (i+1) x λj f d e=>by have:=h (j+1) f (by simpa using d) e;rwa [show i+(j+1)=i+1+j by omega] at this
theorem GE:∀(l:List Rec) (i j:Nat) (D:Nat->Bool) (b:Nat) (x:Option Blk) (r:Rec),l[j]?=some r->D (i+j)=true->b∈keys r.wr->
  (∀k c,j<k->l[k]?=some c->b∈keys c.wr->D (i+k)=false)->wJ i l D b x=look r.wr b
 | [],_,_,_,_,_,_,h,_,_,_=>by simp at h
 | r0::l,i,0,D,b,x,r,h,e,d,a=>by
  simp only [mL,au] at h;subst h;simp only [cP] at e;simp only [wJ];obtain ⟨v,m⟩:=sd d;rw [ae e,m];exact Jd l (i+1) D b _ λk c g f=>by have:=a (k+1) c (by omega) (by simpa using g) f;rwa [show i+(k+1)=i+1+k by omega] at this
 | r0::l,i,j+1,D,b,x,r,h,e,d,a=>by
  simp only [wJ]
  exact GE l (i+1) j D b _ r (by simpa using h) (by rwa [show i+1+j=i+(j+1) by omega]) d λk c g n f=>by
   have:=a (k+1) c (by omega) (by simpa using n) f;rwa [show i+(k+1)=i+1+k by omega] at this
theorem qS:∀(l:List Rec) (i j:Nat) (s:St),Eqv ((l.take j).foldl St.put s) (appD i l (λm=>decide (m<i+j)) s)
 | [],i,j,s=>by simp [appD];exact Eqv.refl s
 | r::l,i,0,s=>by
  have:∀(l:List Rec) (i a:Nat) (s:St),i<=a->appD a l (λm=>decide (m<i)) s=s:=by
   intro l
   induction l with
   | nil=>intros;rfl
   | cons r l ih=>intro i a s h;simp only [appD,show ¬a<i by omega,nU,bv,aB];exact ih i (a+1) s (by omega)
  simp only [lT,Hm,cP];rw [this (r::l) i i s (aY _)];exact Eqv.refl s
 | r::l,i,j+1,s=>by
  simp only [oc,vC,appD,show i<i+(j+1) by omega,oK,aL];have:=qS l (i+1) j (s.put r);rwa [show (λm=>decide (m<i+1+j))=λm=>decide (m<i+(j+1)) by funext m;simp only [nX];omega] at this
theorem BE:∀(l:List Rec) (i:Nat) (D:Nat->Bool) (s:St),(∀j,j<l.length->D (i+j)=true)->appD i l D s=l.foldl St.put s
 | [],_,_,_,_=>rfl
 | r::l,i,D,s,h=>by
  have a:=h 0 (by simp);simp only [cP] at a;simp only [appD,a,aL,vC];exact BE l (i+1) D _ λj b=>by have:=h (j+1) (by simpa using b);rwa [show i+(j+1)=i+1+j by omega] at this
def uQ (P:Program) (n nb0:Nat) (ops:List Oper) (i:Nat) (o:Oper) (r:Rec) (base:St):Prop:=
 ∀s':St,(∀t∈o.looksAt ops.toArray,look s'.T t=look base.T t)->(∀b∈r.rd,look s'.H b=look base.H b)->s'.nb=base.nb->s'.ro=base.ro->
  ∀(ι0:Inj) (w0:Base) (ι:Inj) (a:Act) (w:World),Inv n ι0 w0 ι s' a w->(∀b,nb0+8*i<=b->b<nb0+8*i+8->ι b=none)->∀(K:Act->World->Prop) (Q:Exit->Act->World->Prop),
   (∀c d w',(∀b,(b<nb0+8*i\/nb0+8*i+8<=b)->c b=ι b)->Inv n ι0 w0 c (s'.put r) d w'->K d w')->
   if Region.wanted o (yielded ops.toArray a.tmps) then o.wp P a w K Q else K (a.put o.dst undef) w
def Ag (P:Program) (n nb0:Nat) (ops:List Oper) (i:Nat) (o:Oper) (v:V) (wr:List (Nat×Blk)) (rd:List Nat) (base:St):Prop:=
 ∀s':St,(∀t∈o.looksAt ops.toArray,look s'.T t=look base.T t)->(∀b∈rd,look s'.H b=look base.H b)->s'.nb=base.nb->s'.ro=base.ro->
  ∀(ι0:Inj) (w0:Base) (ι:Inj) (a:Act) (w:World),Inv n ι0 w0 ι s' a w->(∀b,nb0+8*i<=b->b<nb0+8*i+8->ι b=none)->∀(K:Act->World->Prop) (Q:Exit->Act->World->Prop),
   (∀c x w',VR c v x->Inv n ι0 w0 c (s'.app none none wr s'.nb) a w'->Q (.panic [{ v:=x,recovered:=false }]) a w')->
   Region.wanted o (yielded ops.toArray a.tmps)=true/\o.wp P a w K Q
theorem Ag.eqv {n nb0:Nat} {ops:List Oper} {i:Nat} {o:Oper} {v:V} {wr:List (Nat×Blk)} {rd:List Nat} {base C:St} (h:Ag P n nb0 ops i o v wr rd base) (e:Eqv base C):Ag P n nb0 ops i o v wr rd C:=
 λs' F J E G=>h s' (λt Q=>by rw [F t Q,e.T]) (λb O=>by rw [J b O,e.H]) (by rw [E,e.nb]) (by rw [G,e.ro])
theorem uQ.eqv {n nb0:Nat} {ops:List Oper} {i:Nat} {o:Oper} {r:Rec} {base C:St} (h:uQ P n nb0 ops i o r base) (e:Eqv base C):uQ P n nb0 ops i o r C:=
 λs' F J E G=>h s' (λt Q=>by rw [F t Q,e.T]) (λb O=>by rw [J b O,e.H]) (by rw [E,e.nb]) (by rw [G,e.ro])
theorem zB {α:Type} {ops:List Oper} {o:Oper} {s:St} {k:Bool->St->Option α} {z:α} (h:wP ops o s k=some z):
  ∃c r,k c r=some z/\Eqv r s/\∀s':St,(∀t∈o.looksAt ops.toArray,look s'.T t=look s.T t)->∀(n:Nat) (ι0 ι:Inj) (w0:Base) (a:Act) (w:World),Inv n ι0 w0 ι s' a w->
   Region.wanted o (yielded ops.toArray a.tmps)=c:=by
 unfold wP at h;split at h
 ·rename_i l;exact ⟨true,s,h,Eqv.refl s,λ_ _ _ _ _ _ _ _ _=>by simp [Region.wanted,l]⟩
 ·rename_i j c l;split at h
  case h_2=>cases h
  rename_i d i;have f:d∈o.looksAt ops.toArray:=by
   unfold Oper.looksAt;unfold gtmp at i;split at i
   ·rename_i v q;simp [l,q,i]
   ·cases i
  have again:∀x,look s.T d=some (some (.b x))->Eqv { s with T:=(d,some (V.b x))::s.T } s:=by
   intro x hx;refine ⟨λt=>?_,λ_=>rfl,rfl,rfl,rfl,rfl⟩;show look ((d,some (V.b x))::s.T) t=look s.T t;rw [aV];split
   ·rename_i e;subst e;exact hx.symm
   ·rfl
  split at h
  ·rename_i x hx;cases x
   ·refine ⟨!c,_,h,again _ hx,λs' hs n ι0 ι w0 a w p=>?_⟩;obtain ⟨y,m,g⟩:=p.tmps d _ (by rw [hs d f];exact hx);simp only [VR] at g;subst g;have hy:=sj i a.tmps;rw [m] at hy;cases c<;>simp [Region.wanted,l,hy]
   ·refine ⟨c,_,h,again _ hx,λs' hs n ι0 ι w0 a w p=>?_⟩;obtain ⟨y,m,g⟩:=p.tmps d _ (by rw [hs d f];exact hx);simp only [VR] at g;subst g;have hy:=sj i a.tmps;rw [m] at hy;cases c<;>simp [Region.wanted,l,hy]
  ·rename_i hx;refine ⟨false,s,h,Eqv.refl s,λs' hs n ι0 ι w0 a w p=>?_⟩;obtain ⟨y,m,g⟩:=p.tmps d _ (by rw [hs d f];exact hx);simp only [VR] at g;obtain ⟨u,rfl,_⟩:=g;have hy:=sj i a.tmps;rw [m] at hy;simp [Region.wanted,l,hy]
  ·cases h
theorem xR {ops:Array Oper} {o:Oper} {s s':St} (h:∀t∈o.looksAt ops,look s'.T t=look s.T t):∀x∈o.op.operands.toList,opd s'.T x=opd s.T x:=by
 intro x hx;cases x with
 | tmp t=>
  have:=h t (by
   unfold Oper.looksAt;simp only [nO,List.mem_filterMap];exact .inl ⟨.tmp t,hx,rfl⟩)
  simp only [opd,this]
 | _=>rfl
theorem N7 {α:Type} {E:List Ent} (hE:∀x∈E,f9 P x) {n nb0:Nat} {ops:List Oper} {masks:List Nat} {p:Nat} {k:List TE->Option α} {z:α}:∀(l:List Oper) (i:Nat) (s:St) (tr:List TE),
  nb0+8*(i+l.length)<=s.nb->runB P E n nb0 ops masks p i l s tr k=some z->
  ∃(recs:List Rec) (trf:List TE),recs.length=l.length/\k trf=some z/\(∀x∈tr,x∈trf)/\
   (∀j r,recs[j]?=some r->(⟨i+j,r.rd,keys r.wr⟩:TE)∈trf\/(r.rd=[]/\r.wr=[]))/\
   ∀(j:Nat) (o:Oper) (r:Rec),l[j]?=some o->recs[j]?=some r->r.dst=o.dst/\((getN masks (i+j)).testBit p=false->uQ P n nb0 ops (i+j) o r ((recs.take j).foldl St.put s))
 | [],i,s,tr,G,h=>⟨[],tr,rfl,h,λ_ h=>h,λj r h=>by simp at h,λj o r h=>by simp at h⟩
 | o::l,i,s,tr,G,h=>by
  simp only [aE] at G;simp only [runB] at h;have more:∀(e:Rec) (c:List TE) (C:St),e.dst=o.dst->((getN masks i).testBit p=false->uQ P n nb0 ops i o e s)->Eqv C (s.put e)->s.nb<=C.nb->(∀x∈tr,x∈c)->((⟨i,e.rd,keys e.wr⟩:TE)∈c\/(e.rd=[]/\e.wr=[]))->
    runB P E n nb0 ops masks p (i+1) l C c k=some z->∃(recs:List Rec) (trf:List TE),recs.length=(o::l).length/\k trf=some z/\(∀x∈tr,x∈trf)/\
   (∀j r,recs[j]?=some r->(⟨i+j,r.rd,keys r.wr⟩:TE)∈trf\/(r.rd=[]/\r.wr=[]))/\
   ∀(j:Nat) (D:Oper) (r:Rec),(o::l)[j]?=some D->recs[j]?=some r->r.dst=D.dst/\((getN masks (i+j)).testBit p=false->uQ P n nb0 ops (i+j) D r ((recs.take j).foldl St.put s)):=by
   intro e c C R hl e2 hnb2 L N h;obtain ⟨recs,trf,g1,g2,W,g5,g6⟩:=N7 hE l (i+1) C c (by omega) h;refine ⟨e::recs,trf,by simp [g1],g2,λx hx=>W x (L x hx),λj r m=>?_,λj D r O m=>?_⟩
   ·cases j with
    | zero=>simp only [mL,au] at m;subst m;exact N.imp (W _) id
    | succ j=>have:=g5 j r (by simpa using m);rwa [show i+1+j=i+(j+1) by omega] at this
   ·cases j with
    | zero=>
     simp only [mL,au] at O m;subst O m;exact ⟨R,hl⟩
    | succ j=>
     obtain ⟨p1,Y⟩:=g6 j D r (by simpa using O) (by simpa using m);rw [show i+1+j=i+(j+1) by omega] at Y;exact ⟨p1,λu=>(Y u).eqv (by simpa using Eqv.puts (recs.take j) e2)⟩
  split at h
  ·rename_i B;exact more ⟨o.dst,none,[],[]⟩ tr (s.app o.dst none [] s.nb) rfl (λu=>by rw [B] at u;cases u) (Eqv.refl _) (aY _) (λ_ h=>h) (.inr ⟨rfl,rfl⟩) h
  obtain ⟨F,A,h,q,X⟩:=zB h;have d:A.nb=s.nb:=q.nb;cases F
  ·simp only at h;split at h
   case h_2=>cases h
   rename_i R;refine more ⟨o.dst,some (.tp []),[],[]⟩ tr (A.app o.dst (some (.tp [])) [] A.nb) rfl (λ_ s' J V Z q4 ι0 w0 ι a w I y K Q S=>?_) (q.put ⟨o.dst,some (.tp []),[],[]⟩) (yM d.symm) (λ_ h=>h) (.inr ⟨rfl,rfl⟩) h;rw [X s' J n ι0 ι w0 a w I];simp only [bv,aB];exact S ι _ _ (λ_ _=>rfl) (I.skip R)
  ·simp only at h;rcases C4 hE (by omega) h with ⟨val,wr,rd,g,M,f⟩ | ⟨v,wr,rd,M,f⟩
   ·refine more ⟨o.dst,val,wr,rd⟩ (⟨i,rd,keys wr⟩::tr) (A.app o.dst val wr A.nb) rfl (λ_ s' J V Z q4 ι0 w0 ι a w I y K Q S=>?_) (q.put ⟨o.dst,val,wr,rd⟩) (yM d.symm) (λx hx=>fY _ hx) (.inl (by simp [keys])) M;rw [X s' J n ι0 ι w0 a w I];simp only [aL];refine f s' (xR λt ht=>by rw [J t ht,q.T]) (λb u=>by rw [V b u,q.H]) (by rw [Z,d]) (by rw [q4,q.ro]) ι0 w0 ι a w I (by simpa using y) K Q λU a' w' z1 z2=>S U a' w' (by simpa using z1) z2
   ·cases M
theorem AI {α:Type} {E:List Ent} (hE:∀x∈E,f9 P x) {n nb0:Nat} {ops:List Oper} {masks:List Nat} {k:St->List TE->Option α} {kp:Nat->V->St->List TE->Option α} {z:α}:∀(l:List Oper) (i:Nat) (s:St) (tr:List TE),
  nb0+8*(i+l.length)<=s.nb->runD P E n nb0 ops masks kp i l s tr k=some z->
  (∃(recs:List Rec) (d:St) (trf:List TE),recs.length=l.length/\k d trf=some z/\Eqv d (recs.foldl St.put s)/\(∀x∈tr,x∈trf)/\
   (∀j r,recs[j]?=some r->(⟨i+j,r.rd,keys r.wr⟩:TE)∈trf\/(r.rd=[]/\r.wr=[]))/\
   ∀(j:Nat) (o:Oper) (r:Rec),l[j]?=some o->recs[j]?=some r->r.dst=o.dst/\uQ P n nb0 ops (i+j) o r ((recs.take j).foldl St.put s))\/
  (∃(p:Nat) (op:Oper) (recs:List Rec) (d:St) (M:St) (trf:List TE) (v:V) (wr:List (Nat×Blk)) (y:Rec),recs.length=l.length/\l[p]?=some op/\recs[p]?=some y/\y.dst=op.dst/\y.wr=[]/\M=d.app none none wr d.nb/\kp (i+p) v M trf=some z/\Eqv d ((recs.take p).foldl St.put s)/\(∀x∈tr,x∈trf)/\
   Ag P n nb0 ops (i+p) op v wr y.rd ((recs.take p).foldl St.put s)/\
   (∀j r,recs[j]?=some r->j≠p->(⟨i+j,r.rd,keys r.wr⟩:TE)∈trf\/(r.rd=[]/\r.wr=[]))/\
   ∀(j:Nat) (o:Oper) (r:Rec),l[j]?=some o->recs[j]?=some r->r.dst=o.dst/\((j<p\/(p<j/\(getN masks (i+j)).testBit (i+p)=false))->uQ P n nb0 ops (i+j) o r ((recs.take j).foldl St.put s)))
 | [],i,s,tr,hnb,h=>.inl ⟨[],s,tr,rfl,h,Eqv.refl s,λ_ h=>h,λj r h=>by simp at h,λj o r h=>by simp at h⟩
 | o::l,i,s,tr,hnb,h=>by
  simp only [aE] at hnb;simp only [runD] at h;obtain ⟨want,D,h,q,hw⟩:=zB h;have e:D.nb=s.nb:=q.nb;have more:∀(B:Rec) (m:List TE) (X:St),B.dst=o.dst->uQ P n nb0 ops i o B s->Eqv X (s.put B)->s.nb<=X.nb->(∀x∈tr,x∈m)->((⟨i,B.rd,keys B.wr⟩:TE)∈m\/(B.rd=[]/\B.wr=[]))->
    runD P E n nb0 ops masks kp (i+1) l X m k=some z->
    (∃(recs:List Rec) (d:St) (trf:List TE),recs.length=(o::l).length/\k d trf=some z/\Eqv d (recs.foldl St.put s)/\(∀x∈tr,x∈trf)/\
   (∀j r,recs[j]?=some r->(⟨i+j,r.rd,keys r.wr⟩:TE)∈trf\/(r.rd=[]/\r.wr=[]))/\
   ∀(j:Nat) (f:Oper) (r:Rec),(o::l)[j]?=some f->recs[j]?=some r->r.dst=f.dst/\uQ P n nb0 ops (i+j) f r ((recs.take j).foldl St.put s))\/
    (∃(p:Nat) (op:Oper) (recs:List Rec) (d:St) (M:St) (trf:List TE) (v:V) (wr:List (Nat×Blk)) (y:Rec),recs.length=(o::l).length/\(o::l)[p]?=some op/\recs[p]?=some y/\y.dst=op.dst/\y.wr=[]/\M=d.app none none wr d.nb/\kp (i+p) v M trf=some z/\Eqv d ((recs.take p).foldl St.put s)/\(∀x∈tr,x∈trf)/\
   Ag P n nb0 ops (i+p) op v wr y.rd ((recs.take p).foldl St.put s)/\
   (∀j r,recs[j]?=some r->j≠p->(⟨i+j,r.rd,keys r.wr⟩:TE)∈trf\/(r.rd=[]/\r.wr=[]))/\
   ∀(j:Nat) (f:Oper) (r:Rec),(o::l)[j]?=some f->recs[j]?=some r->r.dst=f.dst/\((j<p\/(p<j/\(getN masks (i+j)).testBit (i+p)=false))->uQ P n nb0 ops (i+j) f r ((recs.take j).foldl St.put s))):=by
   intro B m X hd hl L hnb2 O R h;rcases AI hE l (i+1) X m (by omega) h with ⟨recs,d,trf,S,N,g3,J,Z,Y⟩ | ⟨p,op,recs,d,M,trf,v,wr,y,S,g0,gr,gd,gw,gs,N,g3,J,g7,Z,Y⟩
   ·refine .inl ⟨B::recs,d,trf,by simp [S],N,g3.trans (Eqv.puts recs L),λx hx=>J x (O x hx),λj r c=>?_,λj f r u c=>?_⟩
    ·cases j with
     | zero=>simp only [mL,au] at c;subst c;exact R.imp (J _) id
     | succ j=>have:=Z j r (by simpa using c);rwa [show i+1+j=i+(j+1) by omega] at this
    ·cases j with
     | zero=>
      simp only [mL,au] at u c;subst u c;exact ⟨hd,hl⟩
     | succ j=>
      obtain ⟨W,G⟩:=Y j f r (by simpa using u) (by simpa using c);rw [show i+1+j=i+(j+1) by omega] at G;exact ⟨W,G.eqv (by simpa using Eqv.puts (recs.take j) L)⟩
   ·rw [show i+1+p=i+(p+1) by omega] at N g7;refine .inr ⟨p+1,op,B::recs,d,M,trf,v,wr,y,by simp [S],by simpa using g0,by simpa using gr,gd,gw,gs,N,g3.trans (by simpa using Eqv.puts (recs.take p) L),λx hx=>J x (O x hx),g7.eqv (by simpa using Eqv.puts (recs.take p) L),λj r c hjp=>?_,λj f r u c=>?_⟩
    ·cases j with
     | zero=>simp only [mL,au] at c;subst c;exact R.imp (J _) id
     | succ j=>have:=Z j r (by simpa using c) (by omega);rwa [show i+1+j=i+(j+1) by omega] at this
    ·cases j with
     | zero=>
      simp only [mL,au] at u c;subst u c;exact ⟨hd,λ_=>hl⟩
     | succ j=>
      obtain ⟨W,G⟩:=Y j f r (by simpa using u) (by simpa using c);rw [show i+1+j=i+(j+1) by omega,show i+1+p=i+(p+1) by omega] at G;exact ⟨W,λhc=>(G (hc.imp (λh=>by omega) λh=>⟨by omega,h.2⟩)).eqv (by simpa using Eqv.puts (recs.take j) L)⟩
  cases want
  ·simp only at h;split at h
   case h_2=>cases h
   rename_i hd;refine more ⟨o.dst,some (.tp []),[],[]⟩ tr (D.app o.dst (some (.tp [])) [] D.nb) rfl (λs' F U q3 q4 ι0 w0 ι a w I C K Q hK=>?_) (q.put ⟨o.dst,some (.tp []),[],[]⟩) (yM e.symm) (λ_ h=>h) (.inr ⟨rfl,rfl⟩) h;rw [hw s' F n ι0 ι w0 a w I];simp only [bv,aB];exact hK ι _ _ (λ_ _=>rfl) (I.skip hd)
  ·simp only at h;rcases C4 hE (by omega) h with ⟨val,wr,rd,g,hk,A⟩ | ⟨v,wr,rd,hk,A⟩
   ·refine more ⟨o.dst,val,wr,rd⟩ (⟨i,rd,keys wr⟩::tr) (D.app o.dst val wr D.nb) rfl (λs' F U q3 q4 ι0 w0 ι a w I C K Q hK=>?_) (q.put ⟨o.dst,val,wr,rd⟩) (yM e.symm) (λx hx=>fY _ hx) (.inl (by simp [keys])) hk;rw [hw s' F n ι0 ι w0 a w I];simp only [aL];refine A s' (xR λt ht=>by rw [F t ht,q.T]) (λb hb=>by rw [U b hb,q.H]) (by rw [q3,e]) (by rw [q4,q.ro]) ι0 w0 ι a w I (by simpa using C) K Q λι' a' w' z1 z2=>hK ι' a' w' (by simpa using z1) z2
   ·obtain ⟨recs,trf,S,N,J,Z,Y⟩:=N7 hE l (i+1) _ tr (by simp only [St.app];omega) hk;have L:Eqv (D.app o.dst none [] D.nb) (s.put ⟨o.dst,none,[],rd⟩):=q.put ⟨o.dst,none,[],rd⟩;refine .inr ⟨0,o,⟨o.dst,none,[],rd⟩::recs,D,_,trf,v,wr,⟨o.dst,none,[],rd⟩,by simp [S],rfl,rfl,rfl,rfl,rfl,N,q,J,λs' F U q3 q4 ι0 w0 ι a w I C K Q hK=>?_,λj r c hjp=>?_,λj f r u c=>?_⟩
    ·simp only [lT,Hm] at F U q3 q4;exact ⟨hw s' F n ι0 ι w0 a w I,A s' (xR λt ht=>by rw [F t ht,q.T]) (λb hb=>by rw [U b hb,q.H]) (by rw [q3,e]) (by rw [q4,q.ro]) ι0 w0 ι a w I (by simpa using C) K Q hK⟩
    ·cases j with
     | zero=>exact absurd rfl hjp
     | succ j=>have:=Z j r (by simpa using c);rwa [show i+1+j=i+(j+1) by omega] at this
    ·cases j with
     | zero=>
      simp only [mL,au] at u c;subst u c;exact ⟨rfl,λh=>by omega⟩
     | succ j=>
      obtain ⟨W,G⟩:=Y j f r (by simpa using u) (by simpa using c);rw [show i+1+j=i+(j+1) by omega] at G;refine ⟨W,λhc=>(G ?_).eqv (by simpa using Eqv.puts (recs.take j) L)⟩;rcases hc with hc | hc
      ·omega
      ·exact hc.2
def Down (ops:List Oper) (D:Nat->Bool):Prop:=∀j o e,ops[j]?=some o->D j=true->e∈o.after.toList->Region.binds .any e=true->D e.on=true
def Must (ops:List Oper) (i j:Nat):Prop:=∀D,Down ops D->D j=true->D i=true
def Dn (a:Array Bool):Nat->Bool:=λi=>a.getD i false
structure DrawFacts (P:Program) (n nb0:Nat) (ops:List Oper) (recs:List Rec) (s0:St) (live:Nat->Prop):Prop where
 len:recs.length=ops.length
 nb:s0.nb=nb0+8*ops.length
 loc:∀(j:Nat) (o:Oper) (r:Rec),ops[j]?=some o->recs[j]?=some r->(∀t,r.dst=some t->o.dst=some t)/\(live j->uQ P n nb0 ops j o r (appD 0 recs (λm=>decide (m<j)) s0))
 down:∀(j:Nat) (o:Oper) (e:Edge),ops[j]?=some o->e∈o.after.toList->Region.binds .any e=true->e.on<j
 apart:∀(i j:Nat) (x y:Oper),i<j->ops[i]?=some x->ops[j]?=some y->Must ops i j\/x.apart ops.toArray y=true
 blk:∀(i j:Nat) (x y:Rec),i<j->recs[i]?=some x->recs[j]?=some y->Must ops i j\/((∀b∈keys x.wr,b∉y.rd/\b∉keys y.wr)/\∀b∈x.rd,b∉keys y.wr)
theorem t8 {ops:List Oper} {a:Array Bool} {i:Nat} (hs:a.size=ops.length) (h:i∈Region.ready .any ops.toArray a):
  ∃o,ops[i]?=some o/\i<ops.length/\Dn a i=false/\∀e∈o.after.toList,Region.binds .any e=true->Dn a e.on=true:=by
 unfold Region.ready at h;simp only [oh,kX,aA,wx] at h;obtain ⟨c,f,b⟩:=h;have d:ops[i]?=some ops[i]:=by simp [c]
 refine ⟨ops[i],d,c,?_,λe j g=>?_⟩
 ·unfold Dn;have:i<a.size:=by omega
  simp only [qW,Uz this,xb] at f ⊢;simpa using f
 ·simp only [List.getElem?_toArray,d,fb,xb] at b;have:=(Array.all_eq_true'.1 b) e (by simpa using j);simp only [g,ci,pf] at this;exact this
theorem AE {ops:List Oper} {a:Array Bool} {i:Nat} {o:Oper} (hs:a.size=ops.length) (c:ops[i]?=some o) (d:Dn a i=false)
  (f:∀e∈o.after.toList,Region.binds .any e=true->Dn a e.on=true):i∈Region.ready .any ops.toArray a:=by
 have hi:i<ops.length:=by
  rcases aH i ops.length with b | b
  ·exact b
  ·rw [g9 b] at c;cases c
 unfold Region.ready;simp only [oh,kX,aA,wx];refine ⟨hi,?_,?_⟩
 ·have:i<a.size:=by omega
  unfold Dn at d;simp only [qW,Uz this,xb] at d ⊢;simp [d]
 ·simp only [List.getElem?_toArray,c,fb,xb];refine Array.all_eq_true'.2 λe h=>?_;cases g:Region.binds .any e with
  | false=>rfl
  | true=>
   have:=f e (by simpa using h) g;unfold Dn at this;simpa using this
theorem zZ {a:Array Bool} {i:Nat} (h:i<a.size) (j:Nat):Dn (a.setIfInBounds i true) j=if j=i then true else Dn a j:=by
 unfold Dn;simp only [qW];rw [TO];by_cases b:i=j
 ·subst b;simp [h]
 ·simp [b,show ¬j=i from λe=>b e.symm]
theorem Down.add {ops:List Oper} {D:Nat->Bool} (h:Down ops D) {i:Nat} {o:Oper} (Q:ops[i]?=some o) (U:∀e∈o.after.toList,Region.binds .any e=true->D e.on=true):
  Down ops λj=>if j=i then true else D j:=by
 intro j O e E F J G;show (if e.on=i then true else D e.on)=true;by_cases C:j=i
 ·subst C;rw [Q] at E;cases E;have:=U e J G;split
  ·rfl
  ·exact this
 ·simp only [C,aB] at F;have:=h j O e E F J G;split
  ·rfl
  ·exact this
theorem Must.in {ops:List Oper} {D:Nat->Bool} (h:Down ops D) {i k:Nat} {o:Oper} (F:ops[i]?=some o) (E:∀e∈o.after.toList,Region.binds .any e=true->D e.on=true)
  (G:Must ops k i) (C:k≠i):D k=true:=by
 have:=G _ (h.add F E) (by simp);simpa [C] using this
section
variable {n nb0:Nat} {ops:List Oper} {recs:List Rec} {s0:St} {live:Nat->Prop} (F:DrawFacts P n nb0 ops recs s0 live)
include F
theorem yB {i:Nat} {o:Oper} (h:ops[i]?=some o):∃r,recs[i]?=some r:=by
 have hi:i<ops.length:=by
  rcases aH i ops.length with a | a
  ·exact a
  ·rw [g9 a] at h;cases h
 exact ⟨recs[i]'(by rw [F.len];exact hi),by simp [F.len,hi]⟩
theorem xa {i:Nat} {r:Rec} (h:recs[i]?=some r):∃o,ops[i]?=some o:=by
 have hi:i<recs.length:=by
  rcases aH i recs.length with a | a
  ·exact a
  ·rw [g9 a] at h;cases h
 exact ⟨ops[i]'(by rw [<-F.len];exact hi),by simp [F.len▸hi]⟩
theorem Bc {D:Nat->Bool} (s:Down ops D) {i:Nat} {o:Oper} (h:ops[i]?=some o) (u:D i=false) (w:∀e∈o.after.toList,Region.binds .any e=true->D e.on=true)
  {t:Nat} (v:t∈o.looksAt ops.toArray):look (appD 0 recs D s0).T t=look (appD 0 recs (λm=>decide (m<i)) s0).T t:=by
 rw [zr,zr];refine tM recs 0 _ _ t _ λj r q x=>?_;simp only [da];obtain ⟨n,b⟩:=xa F q;have a:=((F.loc j n r b q).1 t x).symm;rcases EG j i with d | p | k
 ·have g:D j=true:=by
   rcases F.apart j i n o d b h with l | c
   ·exact l.in s h w (by omega)
   ·exact absurd v ((ER c).1 t a.symm)
  rw [g];simp [d]
 ·subst p;simp [u]
 ·have g:D j=false:=by
   rcases F.apart i j o n k h b with l | c
   ·cases f:D j with
    | false=>rfl
    | true=>have:=l D s f;rw [u] at this;cases this
   ·exact absurd v ((ER c).2.2 t a.symm)
  rw [g];simp;omega
theorem AV {D:Nat->Bool} (p:Down ops D) {i:Nat} {o:Oper} {r:Rec} (v:ops[i]?=some o) (t:recs[i]?=some r) (s:D i=false)
  (w:∀e∈o.after.toList,Region.binds .any e=true->D e.on=true) {b:Nat} (q:b∈r.rd):look (appD 0 recs D s0).H b=look (appD 0 recs (λm=>decide (m<i)) s0).H b:=by
 rw [xZ,xZ];refine qh recs 0 _ _ b _ λj u l n=>?_;simp only [da];rcases EG j i with c | k | g
 ·have f:D j=true:=by
   rcases F.blk j i u r c l t with h | a
   ·exact h.in p v w (by omega)
   ·exact absurd q (a.1 b n).1
  rw [f];simp [c]
 ·subst k;simp [s]
 ·have f:D j=false:=by
   rcases F.blk i j r u g t l with h | a
   ·cases d:D j with
    | false=>rfl
    | true=>have:=h D p d;rw [s] at this;cases this
   ·exact absurd n (a.2 b q)
  rw [f];simp;omega
theorem AU {D:Nat->Bool} (z:Down ops D) {i:Nat} {o:Oper} {r:Rec} (A:ops[i]?=some o) (f:recs[i]?=some r) (C:D i=false):
  Eqv ((appD 0 recs D s0).put r) (appD 0 recs (λj=>if j=i then true else D j) s0):=by
 have l:=(F.loc i o r A f).1;refine ⟨λt=>?_,λb=>?_,by rw [Uu,lR,lR],by show (appD 0 recs D s0).lo=_;rw [xP,xP],by show (appD 0 recs D s0).ro=_;rw [jo,jo],by show (appD 0 recs D s0).rb=_;rw [xN,xN]⟩
 ·rw [Po,zr,zr];by_cases m:r.dst=some t
  ·rw [ae m];symm;refine HV recs 0 i _ t _ r f (by simp) m λk h q c w=>?_;simp only [da,show ¬k=i by omega,aB];obtain ⟨ok,g⟩:=xa F c;have s:=(F.loc k ok h g c).1;rcases F.apart i k o ok q A g with y | d
   ·cases e:D k with
    | false=>rfl
    | true=>have:=y D z e;rw [C] at this;cases this
   ·exact absurd (s t w) ((ER d).2.1 t (l t m))
  ·rw [ab m];refine tM recs 0 _ _ t _ λj h p x=>?_;simp only [da];by_cases a:j=i
   ·subst a;rw [f] at p;cases p;exact absurd x m
   ·simp [a]
 ·rw [Oy,xZ,xZ];by_cases n:b∈keys r.wr
  ·obtain ⟨v,B⟩:=sd n;rw [B,Option.some_or];symm;rw [<-B];refine GE recs 0 i _ b _ r f (by simp) n λk h q c u=>?_;simp only [da,show ¬k=i by omega,aB];rcases F.blk i k r h q f c with y | d
   ·cases e:D k with
    | false=>rfl
    | true=>have:=y D z e;rw [C] at this;cases this
   ·exact absurd u (d.1 b n).2
  ·rw [qP n,Gv];refine qh recs 0 _ _ b _ λj h p u=>?_;simp only [da];by_cases a:j=i
   ·subst a;rw [f] at p;cases p;exact absurd u n
   ·simp [a]
theorem CX {kk:Nat} (y:∀j,kk<=j->j<ops.length->live j) {ι0:Inj} {w0:Base} {Q:Exit->Act->World->Prop} (R:∀ι a w,Inv n ι0 w0 ι (recs.foldl St.put s0) a w->Q .normal a w):
  ∀(fuel:Nat) (c:Array Bool) (ι:Inj) (a:Act) (w:World),c.size=ops.length->(∀j,j<kk->Dn c j=true)->Down ops (Dn c)->Inv n ι0 w0 ι (appD 0 recs (Dn c) s0) a w->
   (∀i,i<ops.length->Dn c i=false->∀b,nb0+8*i<=b->b<nb0+8*i+8->ι b=none)->((List.range ops.length).filter λi=>!Dn c i).length<=fuel->
   wpAny P .any ops.toArray Q fuel c a w:=by
 have fin:∀(c:Array Bool) (ι:Inj) (a:Act) (w:World),c.size=ops.length->Inv n ι0 w0 ι (appD 0 recs (Dn c) s0) a w->Region.ready .any ops.toArray c=[]->Q .normal a w:=by
  intro c ι a w hs x m;have C:∀j,j<ops.length->Dn c j=true:=by
   intro j
   induction j using Nat.strongRecOn with
   | _ j ih=>
    intro v;cases H:Dn c j with
    | true=>rfl
    | false=>
     have f:ops[j]?=some ops[j]:=by simp [v]
     have N:=AE hs f H λe M E=>ih e.on (F.down j _ e f M E) (by have:=F.down j _ e f M E;omega);rw [m] at N;cases N
  rw [BE recs 0 (Dn c) s0 λj v=>by simpa using C j (by rw [<-F.len];exact v)] at x;exact R ι a w x
 intro fuel
 induction fuel with
 | zero=>
  intro c ι a w hs s z x q hc;have m:Region.ready .any ops.toArray c=[]:=by
   rw [List.eq_nil_iff_forall_not_mem];intro i hi;obtain ⟨o,f,g,p,_⟩:=t8 hs hi;have:i∈(List.range ops.length).filter λi=>!Dn c i:=by simp [g,p]
   have:=E7 this;omega
  exact ⟨m,fin c ι a w hs x m⟩
 | succ fuel ih=>
  intro c ι a w hs s z x q hc;refine ⟨fin c ι a w hs x,λi hi=>?_⟩;obtain ⟨o,f,g,p,G⟩:=t8 hs hi;obtain ⟨r,m⟩:=yB F f;have A:=(F.loc i o r f m).2 (y i (by rcases aH i kk with h | h;(· have:=s i h;rw [p] at this;cases this);exact h) g);have d:Dn (c.setIfInBounds i true)=λj=>if j=i then true else Dn c j:=by
   funext j;exact zZ (by omega) j
  have D:=A (appD 0 recs (Dn c) s0) (λt S=>Bc F z f p G S) (λb E=>AV F z f m p G E) (by rw [lR,lR]) (by rw [jo,jo]) ι0 w0 ι a w x (q i g p)
   (wpAny P .any ops.toArray Q fuel (c.setIfInBounds i true)) Q λK U w' O T=>by
    refine ih _ K U w' (by simpa using hs) (λj v=>by rw [d];simp only;split;(· rfl);exact s j v) (by rw [d];exact z.add f G) (by rw [d];exact T.eqv (AU F z f m p)) (λj v l b I J=>?_) ?_
    ·rw [d] at l;by_cases k:j=i
     ·simp [k] at l
     ·simp only [k,aB] at l;rw [O b (by omega)];exact q j v l b I J
    ·have:((List.range ops.length).filter λj=>!Dn (c.setIfInBounds i true) j).length<((List.range ops.length).filter λj=>!Dn c j).length:=by
      rw [d];have B:((List.range ops.length).filter λj=>!(if j=i then true else Dn c j))=((List.range ops.length).filter λj=>!Dn c j).filter λj=>decide (j≠i):=by
       rw [Ha];congr 1;funext j;by_cases k:j=i<;>simp [k]
      rw [B];refine Bo.2 ⟨i,by simp [g,p],by simp⟩
     omega
  unfold wpOp;have L:ops.toArray[i]?=some o:=by simpa using f
  rw [L];simp only;split
  ·rename_i u;rw [ae u] at D;exact .inl D
  ·rename_i u;rw [ab u] at D;exact D
theorem Qe {lim kk:Nat} (E:lim<ops.length) (g:∀j,kk<=j->j<lim->live j/\Must ops j lim) (u:∀j,lim<j->j<ops.length->Must ops lim j) {ι0:Inj} {w0:Base} {Q:Exit->Act->World->Prop}
  (V:∀(fuel:Nat) (c:Array Bool) (ι:Inj) (a:Act) (w:World),c.size=ops.length->(∀j,j<lim->Dn c j=true)->Dn c lim=false->Down ops (Dn c)->Down ops (Dn (c.setIfInBounds lim true))->
   Inv n ι0 w0 ι (appD 0 recs (Dn c) s0) a w->((List.range ops.length).filter λi=>!Dn c i).length<=fuel+1->wpOp P ops.toArray Q lim (wpAny P .any ops.toArray Q fuel (c.setIfInBounds lim true)) a w):
  ∀(fuel:Nat) (c:Array Bool) (ι:Inj) (a:Act) (w:World),c.size=ops.length->(∀j,j<kk->Dn c j=true)->Down ops (Dn c)->Dn c lim=false->Inv n ι0 w0 ι (appD 0 recs (Dn c) s0) a w->
   (∀i,i<ops.length->Dn c i=false->∀b,nb0+8*i<=b->b<nb0+8*i+8->ι b=none)->((List.range ops.length).filter λi=>!Dn c i).length<=fuel->
   wpAny P .any ops.toArray Q fuel c a w:=by
 have fin:∀(c:Array Bool),c.size=ops.length->Dn c lim=false->Region.ready .any ops.toArray c=[]->False:=by
  intro c hs hp s;have G:∀j,j<ops.length->Dn c j=true:=by
   intro j
   induction j using Nat.strongRecOn with
   | _ j ih=>
    intro y;cases J:Dn c j with
    | true=>rfl
    | false=>
     have f:ops[j]?=some ops[j]:=by simp [y]
     have T:=AE hs f J λe S I=>ih e.on (F.down j _ e f S I) (by have:=F.down j _ e f S I;omega);rw [s] at T;cases T
  rw [G lim E] at hp;cases hp
 intro fuel
 induction fuel with
 | zero=>
  intro c ι a w hs l k hp M q hc;have:lim∈(List.range ops.length).filter λi=>!Dn c i:=by simp [E,hp]
  have:=E7 this;omega
 | succ fuel ih=>
  intro c ι a w hs l k hp M q hc;refine ⟨λs=>(fin c hs hp s).elim,λi hi=>?_⟩;obtain ⟨o,f,v,z,A⟩:=t8 hs hi;obtain ⟨r,s⟩:=yB F f;have d:Dn (c.setIfInBounds i true)=λj=>if j=i then true else Dn c j:=by
   funext j;exact zZ (by omega) j
  by_cases B:i=lim
  ·subst B;refine V fuel c ι a w hs (λj y=>?_) z k (by rw [d];exact k.add f A) M hc;rcases aH j kk with h | h
   ·exact l j h
   ·exact (g j h y).2.in k f A (by omega)
  have O:ops.toArray[i]?=some o:=by simpa using f
  unfold wpOp;rw [O];simp only;have hlt':i<lim:=by
   rcases aH i lim with h | h
   ·exact h
   ·have:=(u i (by omega) v).in k f A (λe=>B e.symm);rw [hp] at this;cases this
  have R:kk<=i:=by
   rcases aH i kk with h | h
   ·have:=l i h;rw [z] at this;cases this
   ·exact h
  have C:=(F.loc i o r f s).2 (g i R hlt').1
  have H:=C (appD 0 recs (Dn c) s0) (λt W=>Bc F k f z A W) (λb I=>AV F k f s z A I) (by rw [lR,lR]) (by rw [jo,jo]) ι0 w0 ι a w M (q i v z)
   (wpAny P .any ops.toArray Q fuel (c.setIfInBounds i true)) Q λN Y w' U X=>by
    refine ih _ N Y w' (by simpa using hs) (λj y=>by rw [d];simp only;split;(· rfl);exact l j y) (by rw [d];exact k.add f A) (by rw [d];simp only [show ¬lim=i by omega,aB];exact hp) (by rw [d];exact X.eqv (AU F k f s z)) (λj y p b K L=>?_) ?_
    ·rw [d] at p;by_cases m:j=i
     ·simp [m] at p
     ·simp only [m,aB] at p;rw [U b (by omega)];exact q j y p b K L
    ·have:((List.range ops.length).filter λj=>!Dn (c.setIfInBounds i true) j).length<((List.range ops.length).filter λj=>!Dn c j).length:=by
      rw [d];have D:((List.range ops.length).filter λj=>!(if j=i then true else Dn c j))=((List.range ops.length).filter λj=>!Dn c j).filter λj=>decide (j≠i):=by
       rw [Ha];congr 1;funext j;by_cases m:j=i<;>simp [m]
      rw [D];refine Bo.2 ⟨i,by simp [v,z],by simp⟩
     omega
  split
  ·rename_i x;rw [ae x] at H;exact .inl H
  ·rename_i x;rw [ab x] at H;exact H
theorem Ox {lim:Nat} {ι0:Inj} {w0:Base} {Q:Exit->Act->World->Prop} {R:Oper} {pr:Rec} {v:V} {wr:List (Nat×Blk)} (g:ops[lim]?=some R) (I:recs[lim]?=some pr)
  (O:Ag P n nb0 ops lim R v wr pr.rd (appD 0 recs (λm=>decide (m<lim)) s0))
  (A:∀j,j<ops.length->j≠lim->live j\/Must ops lim j)
  (hQ:∀D,Down ops D->(∀e∈R.after.toList,Region.binds .any e=true->D e.on=true)->D lim=false->∀ι x a w,VR ι v x->Inv n ι0 w0 ι ((appD 0 recs D s0).app none none wr s0.nb) a w->Q (.panic [{ v:=x,recovered:=false }]) a w):
  ∀(fuel:Nat) (c:Array Bool) (ι:Inj) (a:Act) (w:World),c.size=ops.length->Down ops (Dn c)->Dn c lim=false->Inv n ι0 w0 ι (appD 0 recs (Dn c) s0) a w->
   (∀i,i<ops.length->Dn c i=false->∀b,nb0+8*i<=b->b<nb0+8*i+8->ι b=none)->((List.range ops.length).filter λi=>!Dn c i).length<=fuel->
   wpAny P .any ops.toArray Q fuel c a w:=by
 have J:lim<ops.length:=by
  rcases aH lim ops.length with T | T
  ·exact T
  ·rw [g9 T] at g;cases g
 have fin:∀(c:Array Bool),c.size=ops.length->Dn c lim=false->Region.ready .any ops.toArray c=[]->False:=by
  intro c hs hp l;have K:∀j,j<ops.length->Dn c j=true:=by
   intro j
   induction j using Nat.strongRecOn with
   | _ j ih=>
    intro X;cases W:Dn c j with
    | true=>rfl
    | false=>
     have f:ops[j]?=some ops[j]:=by simp [X]
     have N:=AE hs f W λe he E=>ih e.on (F.down j _ e f he E) (by have:=F.down j _ e f he E;omega);rw [l] at N;cases N
  rw [K lim J] at hp;cases hp
 intro fuel
 induction fuel with
 | zero=>
  intro c ι a w hs k hp hI h hc;have:lim∈(List.range ops.length).filter λi=>!Dn c i:=by simp [J,hp]
  have:=E7 this;omega
 | succ fuel ih=>
  intro c ι a w hs k hp hI h hc;refine ⟨λl=>(fin c hs hp l).elim,λi hi=>?_⟩;obtain ⟨o,f,p,u,z⟩:=t8 hs hi;obtain ⟨r,l⟩:=yB F f;have hoa:ops.toArray[i]?=some o:=by simpa using f
  unfold wpOp;rw [hoa];simp only;by_cases y:i=lim
  case neg=>
   rcases A i p y with Z | N
   case inr=>
    have:=N.in k f z (λe=>y e.symm);rw [hp] at this;cases this
   have G:=(F.loc i o r f l).2 Z;have d:Dn (c.setIfInBounds i true)=λj=>if j=i then true else Dn c j:=by
    funext j;exact zZ (by omega) j
   have L:=G (appD 0 recs (Dn c) s0) (λt U=>Bc F k f u z U) (λb E=>AV F k f l u z E) (by rw [lR,lR]) (by rw [jo,jo]) ι0 w0 ι a w hI (h i p u)
    (wpAny P .any ops.toArray Q fuel (c.setIfInBounds i true)) Q λC a' w' S M=>by
     refine ih _ C a' w' (by simpa using hs) (by rw [d];exact k.add f z) (by rw [d];simp only [show ¬lim=i by omega,aB];exact hp) (by rw [d];exact M.eqv (AU F k f l u)) (λj X s b Y hb2=>?_) ?_
     ·rw [d] at s;by_cases q:j=i
      ·simp [q] at s
      ·simp only [q,aB] at s;rw [S b (by omega)];exact h j X s b Y hb2
     ·have:((List.range ops.length).filter λj=>!Dn (c.setIfInBounds i true) j).length<((List.range ops.length).filter λj=>!Dn c j).length:=by
       rw [d];have H:((List.range ops.length).filter λj=>!(if j=i then true else Dn c j))=((List.range ops.length).filter λj=>!Dn c j).filter λj=>decide (j≠i):=by
        rw [Ha];congr 1;funext j;by_cases q:j=i<;>simp [q]
       rw [H];refine Bo.2 ⟨i,by simp [p,u],by simp⟩
      omega
   split
   ·rename_i B;rw [ae B] at L;exact .inl L
   ·rename_i B;rw [ab B] at L;exact L
  case pos=>
   subst y;rw [g] at f;cases f;rw [I] at l;cases l
   obtain ⟨q1,q2⟩:=O (appD 0 recs (Dn c) s0) (λt U=>Bc F k g u z U) (λb E=>AV F k g I u z E) (by rw [lR,lR]) (by rw [jo,jo]) ι0 w0 ι a w hI (h i p u)
    (wpAny P .any ops.toArray Q fuel (c.setIfInBounds i true)) Q λC x w' S M=>hQ _ k z u C x a w' S (by rw [lR] at M;exact M)
   rw [ae q1];exact .inl q2
end
theorem CN:∀{l:List Nat} {j:Nat},l.length<=j->getN l j=0
 | [],_,_=>rfl
 | _::_,0,h=>by simp at h
 | _::l,j+1,h=>CN (l:=l) (by simpa using h)
theorem sP:∀{l m:List Nat} {j:Nat},j<l.length->getN (l++m) j=getN l j
 | [],_,_,h=>by simp at h
 | _::_,_,0,_=>rfl
 | _::l,m,j+1,h=>sP (l:=l) (m:=m) (by simpa using h)
theorem sV:∀(l:List Nat) (x:Nat),getN (l++[x]) l.length=x
 | [],_=>rfl
 | _::l,x=>sV l x
theorem th (acc:List Nat):∀(l:List Edge) (s i:Nat),(D6 acc l s).testBit i=true->s.testBit i=true\/∃e∈l,Region.binds .any e=true/\(e.on=i\/(getN acc e.on).testBit i=true)
 | [],s,i,h=>.inl h
 | e::l,s,i,h=>by
  simp only [D6] at h;split at h
  ·rename_i f;rcases th acc l _ i h with a | ⟨c,b,d⟩
   ·simp only [Nat.testBit_or,iV] at a;rcases a with (a | a) | a
    ·exact .inl a
    ·refine .inr ⟨e,by simp,f,.inl ?_⟩;rw [Nat.testBit_two_pow] at a;simpa using a
    ·exact .inr ⟨e,by simp,f,.inr a⟩
   ·exact .inr ⟨c,fY _ b,d⟩
  ·rcases th acc l _ i h with a | ⟨c,b,d⟩
   ·exact .inl a
   ·exact .inr ⟨c,fY _ b,d⟩
theorem pS (ops:List Oper):∀(r:List Oper) (acc:List Nat),(∀j,r[j]?=ops[acc.length+j]?)->(∀j i,(getN acc j).testBit i=true->Must ops i j)->
  ∀j i,(getN (ln r acc) j).testBit i=true->Must ops i j
 | [],acc,_,h=>h
 | o::r,acc,m,h=>by
  simp only [ln];refine pS ops r _ (λj=>by have:=m (j+1);simp only [HK] at this;rw [this];simp;congr 1;omega) λj i a=>?_;rcases EG j acc.length with g | f | p
  ·rw [sP g] at a;exact h j i a
  ·subst f;rw [sV] at a;have n:ops[acc.length]?=some o:=by have:=m 0;simpa using this.symm
   rcases th acc _ _ _ a with b | ⟨e,q,d,b⟩
   ·simp at b
   ·intro D l c;have k:=l acc.length o e n c q d;rcases b with rfl | b
    ·exact k
    ·exact h e.on i b D l k
  ·rw [CN (by simp;omega)] at a;simp at a
theorem jT:∀(l:List Oper) (i:Nat),rF i l=true->∀(j:Nat) (o:Oper) (e:Edge),l[j]?=some o->e∈o.after.toList->Region.binds .any e=true->e.on<i+j
 | [],_,_,_,_,_,h,_,_=>by simp at h
 | o::l,i,h,j,d,e,a,b,c=>by
  simp only [rF,aA,cK] at h;cases j with
  | zero=>
   simp only [mL,au] at a;subst a;have:=h.1 e b;simp only [c,ci,pf] at this;exact aJ this
  | succ j=>have:=jT l (i+1) h.2 j d e (by simpa using a) b c;omega
theorem sR {ops:Array Oper} {o:Oper} {a:Nat}:∀(l:List Oper) (i:Nat),uF ops o a i l=true->∀(j:Nat) (p:Oper),l[j]?=some p->a.testBit (i+j)=true\/p.apart ops o=true
 | [],_,_,_,_,h=>by simp at h
 | q::l,i,h,j,p,b=>by
  simp only [uF,aA,iV] at h;cases j with
  | zero=>simp only [mL,au] at b;subst b;exact h.1
  | succ j=>have:=sR l (i+1) h.2 j p (by simpa using b);rwa [show i+1+j=i+(j+1) by omega] at this
theorem ny {ops:Array Oper} {masks:List Nat}:∀(l a:List Oper),uC ops masks a.length a l=true->∀(i j:Nat) (x y:Oper),i<a.length+j->(a++l)[i]?=some x->l[j]?=some y->
  (getN masks (a.length+j)).testBit i=true\/x.apart ops y=true
 | [],_,_,_,_,_,_,_,_,h=>by simp at h
 | o::l,a,h,i,j,x,y,hi,hx,hy=>by
  simp only [uC,aA] at h;cases j with
  | zero=>
   simp only [mL,au] at hy;subst hy;have:=sR a 0 h.1 i x (by rw [od (by simpa using hi)] at hx;exact hx);simpa using this
  | succ j=>
   have b:=h.2;rw [show a.length+1=(a++[o]).length by simp] at b;have:=ny l (a++[o]) b i j x y (by simp;omega) (by simpa using hx) (by simpa using hy);rwa [show (a++[o]).length+j=a.length+(j+1) by simp;omega] at this
theorem rB {masks:List Nat}:∀{tr:List TE},qz masks tr=true->∀x∈tr,∀y∈tr,x.i<y.i->xU masks x y=true\/xU masks y x=true
 | [],_,x,hx,_,_,_=>by cases hx
 | z::l,h,x,hx,y,hy,c=>by
  simp only [qz,aA,cK] at h;rcases cL.1 hx with b | b
  ·subst b;rcases cL.1 hy with a | a
   ·subst a;omega
   ·exact .inl (h.1 y a)
  ·rcases cL.1 hy with a | a
   ·subst a;exact .inr (h.1 x b)
   ·exact rB h.2 x b y a c
theorem yw {x y:TE} (h:S9 x y=false):(∀b∈x.ws,b∉y.rd/\b∉y.ws)/\∀b∈x.rd,b∉y.ws:=by
 simp only [S9,pM,sU,iV,not_or,List.contains_iff_mem] at h;exact ⟨λb a=>h.1 b a,λb a=>h.2 b a⟩
theorem D2 {masks:List Nat} {x y:TE} (h:xU masks x y=true\/xU masks y x=true) (e:x.i<y.i):
  (getN masks y.i).testBit x.i=true\/((∀b∈x.ws,b∉y.rd/\b∉y.ws)/\∀b∈x.rd,b∉y.ws):=by
 have f:Nat.blt x.i y.i=true:=cT e;have g:Nat.blt y.i x.i=false:=by
  cases j:Nat.blt y.i x.i with
  | false=>rfl
  | true=>have:y.i<x.i:=aJ j;omega
 rcases h with h | h
 ·simp only [xU,f,ah,iV,lz] at h;exact h.imp id yw
 ·simp only [xU,g,af,iV,lz] at h;refine h.imp id λh=>?_;obtain ⟨a,b⟩:=yw h;exact ⟨λc hc=>⟨λk=>b c k hc,λd=>(a c d).2 hc⟩,λc hc d=>(a c d).1 hc⟩
theorem vk:∀(ops:List Oper) {T:List (Nat×Option V)} (t:Nat) (v:V),look (I1 ops T) t=some (some v)->(∀o∈ops,o.dst≠some t)/\look T t=some (some v)
 | [],T,t,v,h=>⟨by simp,h⟩
 | o::l,T,t,v,h=>by
  simp only [I1] at h;split at h
  ·rename_i d b;rw [aV] at h;split at h
   ·cases h
   ·rename_i f;obtain ⟨a,c⟩:=vk l t v h;refine ⟨λx hx=>?_,c⟩;rcases cL.1 hx with rfl | hx
    ·rw [b];intro e;cases e;exact f rfl
    ·exact a x hx
  ·rename_i b;obtain ⟨a,c⟩:=vk l t v h;refine ⟨λx hx=>?_,c⟩;rcases cL.1 hx with rfl | hx
   ·rw [b];intro e;cases e
   ·exact a x hx
theorem Jm {α:Type} {E:List Ent} (hE:∀x∈E,f9 P x) {n:Nat} {ops:List Oper} {s:St} {k:Ex->St->Option α} {z:α} (h:Fe P E n ops s k=some z) (id:Nat):
  SemC P n (.region id ops.toArray true) s λex s'=>k ex s'=some z:=by
 intro ι0 w0 ι a w hI;unfold Fe at h;split at h
 case h_2=>cases h
 rename_i hok;simp only [aA,HN] at hok;obtain ⟨⟨hb1,hb2,_⟩,S⟩:=hok;have g:=pS ops ops [] (by simp) (λj i u=>by simp [getN] at u);have hI1:Inv n ι0 w0 ι { s with nb:=s.nb+8*ops.length } a { w with drawn:=w.drawn+1 }:=by
  have d:=hI.drawn (w.drawn+1);exact ⟨d.size,d.defers,d.tmps,⟨d.mem.inj,λb r u=>by have:=d.mem.low b r u;simp only;omega,d.mem.dom,d.mem.blk⟩,d.ext,d.new,d.fr,d.low,d.fz,d.gl⟩
 have I:∀i,Dn (Array.replicate ops.toArray.size false) i=false:=by
  intro i;unfold Dn;simp only [qW,W8];split<;>rfl
 have hno:∀(l:List Rec) (i:Nat) (D:Nat->Bool) (s:St),(∀j,D j=false)->appD i l D s=s:=by
  intro l
  induction l with
  | nil=>intros;rfl
  | cons r l ih=>intro i D s hD;simp only [appD,hD i,bv,aB];exact ih _ D s hD
 have C:∀(trf:List TE) (x y:Rec) (i j:Nat),qz (ln ops []) (trf.filter λx=>!(x.rd.isEmpty&&x.ws.isEmpty))=true->i<j->((⟨0+i,x.rd,keys x.wr⟩:TE)∈trf\/(x.rd=[]/\x.wr=[]))->((⟨0+j,y.rd,keys y.wr⟩:TE)∈trf\/(y.rd=[]/\y.wr=[]))->
   Must ops i j\/((∀b∈keys x.wr,b∉y.rd/\b∉keys y.wr)/\∀b∈x.rd,b∉keys y.wr):=by
  intro trf x y i j G B hx hy;rcases hx with hxm | ⟨hx1,hx2⟩
  ·rcases hy with hym | ⟨hy1,hy2⟩
   ·simp only [da] at hxm hym;by_cases U:(x.rd=[]/\x.wr=[])
    ·exact .inr (by simp [U.1,U.2,keys])
    ·by_cases he2:(y.rd=[]/\y.wr=[])
     ·exact .inr (by simp [he2.1,he2.2,keys])
     ·have m1:(⟨i,x.rd,keys x.wr⟩:TE)∈trf.filter λx=>!(x.rd.isEmpty&&x.ws.isEmpty):=by
       refine oh.2 ⟨hxm,?_⟩;simp only [keys,lz,Ey,HJ];rcases G5 (x.rd=[]) with h | h
       ·exact .inr (by simpa using λhw=>U ⟨h,hw⟩)
       ·exact .inl h
      have m2:(⟨j,y.rd,keys y.wr⟩:TE)∈trf.filter λx=>!(x.rd.isEmpty&&x.ws.isEmpty):=by
       refine oh.2 ⟨hym,?_⟩;simp only [keys,lz,Ey,HJ];rcases G5 (y.rd=[]) with h | h
       ·exact .inr (by simpa using λhw=>he2 ⟨h,hw⟩)
       ·exact .inl h
      have:=D2 (rB G _ m1 _ m2 B) B;exact this.imp (g j i) λh=>h
   ·exact .inr (by simp [hy1,hy2,keys])
  ·exact .inr (by simp [hx1,hx2,keys])
 rcases AI hE ops 0 _ [] (by simp) h with ⟨recs,O,trf,g1,R,Q,_,Y,g6⟩ | ⟨p,po,recs,O,sp,trf,v,wr,rp,g1,g0,gr,gd,gw,rfl,R,Q,_,g7,Y,g6⟩
 ·split at R
  case h_2=>cases R
  rename_i G;have F:DrawFacts P n s.nb ops recs { s with nb:=s.nb+8*ops.length } (λ_=>True):=by
   refine ⟨g1,rfl,λj o r N V=>?_,λj o e N he u=>?_,λi j x y B hx hy=>?_,λi j x y B hx hy=>?_⟩
   ·obtain ⟨p1,p2⟩:=g6 j o r N V;simp only [da] at p2;have e:=qS recs 0 j { s with nb:=s.nb+8*ops.length };simp only [da] at e;exact ⟨λt X=>p1▸X,λ_=>p2.eqv e⟩
   ·have:=jT ops 0 hb1 j o e N he u;omega
   ·have:=ny (masks:=ln ops []) ops [] hb2 i j x y (by simpa using B) (by simpa using hx) hy;simp only [bz,da] at this;exact this.imp (g j i) λh=>h
   ·exact C trf x y i j G B (Y i x hx) (Y j y hy)
  refine wp_region_any S (CX (kk:=0) F (λ_ _ _=>trivial) (λM a' w' f=>⟨.normal,O,M,rfl,f.eqv Q.symm,R⟩) _ _ ι a _ (by simp) (λj Z=>by omega) (λj o e _ K=>by rw [I j] at K;cases K) (by rw [hno recs 0 _ _ I];exact hI1) (λi _ _ b u _=>?_) ?_)
  ·exact hI.fresh b (by omega)
  ·have:=Cc (λi=>!Dn (Array.replicate ops.toArray.size false) i) (List.range ops.length);simpa using this
 ·split at R
  case h_2=>cases R
  rename_i hpk;simp only [aA,V5] at hpk;obtain ⟨hw,G⟩:=hpk;simp only [da] at R g7 hw;have B:p<ops.length:=by
   rcases aH p ops.length with h' | h'
   ·exact h'
   ·rw [g9 h'] at g0;cases g0
  have A:∀i r,recs[i]?=some r->i≠p->(i<p/\Must ops i p)\/r.wr=[]:=by
   intro i r V J;rcases Y i r V J with hx | hx
   ·have:=(cK.1 hw) _ hx;simp only [da,iV,aA] at this;rcases this with h | h
    ·right;simpa [keys] using h
    ·exact .inl ⟨aJ h.1,g p i h.2⟩
   ·exact .inr hx.2
  have g5':∀(j:Nat) (r:Rec),recs[j]?=some r->j≠p->(⟨0+j,r.rd,keys r.wr⟩:TE)∈trf\/(r.rd=[]/\r.wr=[]):=Y;have F:DrawFacts P n s.nb ops recs { s with nb:=s.nb+8*ops.length } (λj=>j<p\/(p<j/\(getN (ln ops []) (0+j)).testBit (0+p)=false)):=by
   refine ⟨g1,rfl,λj o r N V=>?_,λj o e N he u=>?_,λi j x y hij hx hy=>?_,λi j x y hij hx hy=>?_⟩
   ·obtain ⟨p1,p2⟩:=g6 j o r N V;have e:=qS recs 0 j { s with nb:=s.nb+8*ops.length };simp only [da] at e p2 ⊢;exact ⟨λt X=>p1▸X,λhc=>(p2 hc).eqv e⟩
   ·have:=jT ops 0 hb1 j o e N he u;omega
   ·have:=ny (masks:=ln ops []) ops [] hb2 i j x y (by simpa using hij) (by simpa using hx) hy;simp only [bz,da] at this;exact this.imp (g j i) λh=>h
   ·by_cases J:i=p
    ·
     subst J;rw [gr] at hx;cases hx;rcases A j y hy (by omega) with ⟨h,_⟩ | h
     ·omega
     ·exact .inr (by simp [gw,h,keys])
    ·by_cases L:j=p
     ·subst L;rw [gr] at hy;cases hy;rcases A i x hx J with ⟨_,h⟩ | h
      ·exact .inl h
      ·exact .inr (by simp [gw,h,keys])
     ·exact C trf x y i j G hij (Y i x hx J) (Y j y hy L)
  have c:Eqv ((recs.take p).foldl St.put { s with nb:=s.nb+8*ops.length }) (appD 0 recs (λm=>decide (m<p)) { s with nb:=s.nb+8*ops.length }):=by
   have e:=qS recs 0 p { s with nb:=s.nb+8*ops.length };simpa using e
  have W:∀j,j<ops.length->j≠p->(j<p\/(p<j/\(getN (ln ops []) (0+j)).testBit (0+p)=false))\/Must ops p j:=by
   intro j _ hne;cases u:(getN (ln ops []) (0+j)).testBit (0+p) with
   | false=>exact .inl ((Nat.lt_or_gt_of_ne hne).imp (λh=>h) λh=>⟨h,rfl⟩)
   | true=>simp only [da] at u;exact .inr (g j p u)
  refine wp_region_any S (Ox F g0 gr (g7.eqv c) W (λD hD hd hn M x a' w' hv f=>⟨.pan v,_,M,⟨x,rfl,hv⟩,?inv,R⟩) _ _ ι a _ (by simp) (λj o e _ K=>by rw [I j] at K;cases K) (I p) (by rw [hno _ 0 _ _ I];exact hI1) (λi _ _ b u _=>?fresh) ?len)
  case inv=>
   have hH:∀b,look O.H b=look (appD 0 recs D { s with nb:=s.nb+8*ops.length }).H b:=by
    intro b;rw [Q.H,c.H,xZ,xZ];refine qh _ 0 _ _ b _ λj r Z u=>?_;simp only [da];by_cases L:j=p
    ·subst L;rw [gr] at Z;cases Z;rw [gw] at u;simp [keys] at u
    ·rcases A j r Z L with ⟨d,hm⟩ | hm
     ·rw [hm.in hD g0 hd (by omega)];simp [d]
     ·rw [hm] at u;simp [keys] at u
   have hT:∀t v,look (I1 ops s.T) t=some (some v)->look (appD 0 recs D { s with nb:=s.nb+8*ops.length }).T t=some (some v):=by
    intro t v X;obtain ⟨d,h2⟩:=vk ops t v X;rw [zr,zF _ 0 D t _ λj r Z V=>?_]
    ·exact h2
    ·exfalso;obtain ⟨o,N⟩:=xa F Z;exact d o (gM N) ((F.loc j o r N Z).1 t V)
   refine ⟨f.size,f.defers,λt v X=>f.tmps t v (hT t v X),⟨f.mem.inj,λb r u=>?_,f.mem.dom,λb blk hl hdd=>f.mem.blk b blk ?_ hdd⟩,?_,f.new,?_,λb r u=>?_,?_,?_⟩
   ·have:=f.mem.low b r u;have e:=Q.nb.trans c.nb;rw [lR] at e;show b<O.nb;rw [e];exact this
   ·show look (wr++(appD 0 recs D { s with nb:=s.nb+8*ops.length }).H) b=_;rw [pV,<-hH b,<-pV];exact hl
   ·have e:=Q.rb.trans c.rb;rw [xN] at e;have d:=f.ext;show ∀b q,ι0 b=some q->M b=some q\/O.rb<=b;rw [e];simp only [St.app,xN] at d;exact d
   ·have e:=Q.ro.trans c.ro;rw [jo] at e;have d:=f.fr;show Fr (roI ι0 O.ro) w0.w w';rw [e];simp only [St.app,jo] at d;exact d
   ·have e:=Q.lo.trans c.lo;rw [xP] at e;have d:=f.low b r u;show b<O.lo;rw [e];simp only [St.app,xP] at d;exact d
   ·have e:=Q.ro.trans c.ro;rw [jo] at e;have d:=f.fz;show ∀b q,M b=some (some q)->q.fz=true->b<O.ro;rw [e];simp only [St.app,jo] at d;exact d
   ·have e:=Q.ro.trans c.ro;rw [jo] at e;have d:=f.gl;show GL (roI ι0 O.ro) w0.w;rw [e];simp only [St.app,jo] at d;exact d
  case fresh=>exact hI.fresh b (by omega)
  case len=>
   have:=Cc (λi=>!Dn (Array.replicate ops.toArray.size false) i) (List.range ops.length);simpa using this
end Go.Abs
