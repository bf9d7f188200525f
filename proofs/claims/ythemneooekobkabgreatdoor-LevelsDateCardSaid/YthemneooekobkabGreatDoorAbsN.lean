
/- A region that draws its order: where what is unordered does not meet, every order comes to what the order of the text comes to.
   Conditions: none; generic over the program. -/
import Derived.Test.YthemneooekobkabGreatDoorAbsM
set_option linter.unusedSimpArgs false
set_option linter.unusedVariables false
namespace Go.Abs
variable {P:Program}
structure Rec where
 dst:Option Nat
 val:Option V
 wr:List (Nat×Blk)
 rd:List Nat
def St.put (s:St) (r:Rec):St:=s.app r.dst r.val r.wr s.nb
def keys (wr:List (Nat×Blk)):List Nat:=wr.map (·.1)
theorem pW {α:Type} (l m:List (Nat×α)) (n:Nat):look (l++m) n=(look l n).or (look m n):=by
 induction l with
 | nil=>rfl
 | cons x l ih=>
  obtain ⟨k,v⟩:=x;rw [eW,aY,aY];split
  ·rfl
  ·exact ih
theorem rr {α:Type} {l:List (Nat×α)} {n:Nat} (h:n∉l.map (·.1)):look l n=none:=by
 induction l with
 | nil=>rfl
 | cons x l ih=>
  obtain ⟨k,v⟩:=x;simp only [fV,cf,not_or] at h;rw [aY,ab (λe=>h.1 e.symm)];exact ih h.2
theorem rX {α:Type} {l:List (Nat×α)} {n:Nat} (h:n∈l.map (·.1)):∃v,look l n=some v:=by
 induction l with
 | nil=>simp at h
 | cons x l ih=>
  obtain ⟨k,v⟩:=x;rw [aY];split
  ·exact ⟨v,rfl⟩
  ·rename_i a;simp only [fV,cf] at h;exact ih (h.resolve_left λe=>a e.symm)
theorem PY (s:St) (r:Rec) (t:Nat):look (s.put r).T t=if r.dst=some t then some r.val else look s.T t:=by
 unfold St.put St.app;cases a:r.dst with
 | none=>simp
 | some d=>
  simp only [aY];by_cases h:d=t
  ·subst h;simp
  ·simp [h]
theorem O6 (s:St) (r:Rec) (b:Nat):look (s.put r).H b=(look r.wr b).or (look s.H b):=pW _ _ _
theorem VB (s:St) (r:Rec):(s.put r).nb=s.nb:=rfl
structure Eqv (s s':St):Prop where
 T:∀t,look s.T t=look s'.T t
 H:∀b,look s.H b=look s'.H b
 nb:s.nb=s'.nb
 lo:s.lo=s'.lo
 ro:s.ro=s'.ro
 rb:s.rb=s'.rb
theorem Eqv.refl (s:St):Eqv s s:=⟨λ_=>rfl,λ_=>rfl,rfl,rfl,rfl,rfl⟩
theorem Eqv.symm {s s':St} (h:Eqv s s'):Eqv s' s:=⟨λt=>(h.T t).symm,λb=>(h.H b).symm,h.nb.symm,h.lo.symm,h.ro.symm,h.rb.symm⟩
theorem Eqv.trans {a b c:St} (h:Eqv a b) (k:Eqv b c):Eqv a c:=⟨λt=>(h.T t).trans (k.T t),λt=>(h.H t).trans (k.H t),h.nb.trans k.nb,h.lo.trans k.lo,h.ro.trans k.ro,h.rb.trans k.rb⟩
theorem Eqv.put {s s':St} (h:Eqv s s') (r:Rec):Eqv (s.put r) (s'.put r):=
 ⟨λt=>by rw [PY,PY,h.T],λb=>by rw [O6,O6,h.H],h.nb,h.lo,h.ro,h.rb⟩
theorem Eqv.puts:∀(l:List Rec) {s s':St},Eqv s s'->Eqv (l.foldl St.put s) (l.foldl St.put s')
 | [],_,_,h=>h
 | r::l,_,_,h=>Eqv.puts l (h.put r)
theorem Inv.eqv {n:Nat} {ι0 ι:Inj} {w0:Base} {s s':St} {a:Act} {w:World} (h:Inv n ι0 w0 ι s a w) (e:Eqv s s'):Inv n ι0 w0 ι s' a w:=
 ⟨h.size,h.defers,λt v F=>h.tmps t v (by rw [e.T];exact F),⟨h.mem.inj,λb r C=>by rw [<-e.nb];exact h.mem.low b r C,h.mem.dom,λb blk E G=>h.mem.blk b blk (by rw [e.H];exact E) G⟩,by rw [<-e.rb];exact h.ext,h.new,by rw [<-e.ro];exact h.fr,λb r C=>by rw [<-e.lo];exact h.low b r C,by rw [<-e.ro];exact h.fz,by rw [<-e.ro];exact h.gl⟩
def appD:Nat->List Rec->(Nat->Bool)->St->St
 | _,[],_,s=>s
 | i,r::l,D,s=>appD (i+1) l D (if D i=true then s.put r else s)
def yo:Nat->List Rec->(Nat->Bool)->Nat->Option (Option V)->Option (Option V)
 | _,[],_,_,x=>x
 | i,r::l,D,t,x=>yo (i+1) l D t (if D i=true/\r.dst=some t then some r.val else x)
def wI:Nat->List Rec->(Nat->Bool)->Nat->Option Blk->Option Blk
 | _,[],_,_,x=>x
 | i,r::l,D,b,x=>wI (i+1) l D b (if D i=true then (look r.wr b).or x else x)
theorem Ac:∀(l:List Rec) (i:Nat) (D:Nat->Bool) (s:St) (t:Nat),look (appD i l D s).T t=yo i l D t (look s.T t)
 | [],_,_,_,_=>rfl
 | r::l,i,D,s,t=>by
  simp only [appD,yo,Ac l];congr 1;cases D i
  ·simp
  ·simp only [jG,aO];rw [PY]
theorem xf:∀(l:List Rec) (i:Nat) (D:Nat->Bool) (s:St) (b:Nat),look (appD i l D s).H b=wI i l D b (look s.H b)
 | [],_,_,_,_=>rfl
 | r::l,i,D,s,b=>by
  simp only [appD,wI,xf l];congr 1;cases D i
  ·simp
  ·simp only [aO];rw [O6]
theorem lQ:∀(l:List Rec) (i:Nat) (D:Nat->Bool) (s:St),(appD i l D s).nb=s.nb
 | [],_,_,_=>rfl
 | r::l,i,D,s=>by
  simp only [appD,lQ l];split<;>rfl
theorem jp:∀(l:List Rec) (i:Nat) (D:Nat->Bool) (s:St),(appD i l D s).ro=s.ro
 | [],_,_,_=>rfl
 | r::l,i,D,s=>by
  simp only [appD,jp l];split<;>rfl
theorem yg:∀(l:List Rec) (i:Nat) (D:Nat->Bool) (s:St),(appD i l D s).lo=s.lo
 | [],_,_,_=>rfl
 | r::l,i,D,s=>by
  simp only [appD,yg l];split<;>rfl
theorem yh:∀(l:List Rec) (i:Nat) (D:Nat->Bool) (s:St),(appD i l D s).rb=s.rb
 | [],_,_,_=>rfl
 | r::l,i,D,s=>by
  simp only [appD,yh l];split<;>rfl
theorem tf:∀(l:List Rec) (i:Nat) (D a:Nat->Bool) (t:Nat) (x:Option (Option V)),(∀j r,l[j]?=some r->r.dst=some t->D (i+j)=a (i+j))->yo i l D t x=yo i l a t x
 | [],_,_,_,_,_,_=>rfl
 | r::l,i,D,a,t,x,h=>by
  simp only [yo];have c:=h 0 r (by simp);simp only [cP] at c;rw [tf l (i+1) D a t _ λj e f d=>by have:=h (j+1) e (by simpa using f) d;rwa [show i+(j+1)=i+1+j by omega] at this];congr 1;by_cases b:r.dst=some t
  ·rw [c b]
  ·simp [b]
theorem Ai (l:List Rec) (i:Nat) (D:Nat->Bool) (t:Nat) (x:Option (Option V)) (h:∀j r,l[j]?=some r->r.dst=some t->D (i+j)=false):yo i l D t x=x:=by
 induction l generalizing i x with
 | nil=>rfl
 | cons r l ih=>
  simp only [yo];have a:=h 0 r (by simp);simp only [cP] at a;have:¬(D i=true/\r.dst=some t):=λ⟨b,f⟩=>by rw [a f] at b;cases b
  rw [ab this];exact ih (i+1) x λj d e c=>by have:=h (j+1) d (by simpa using e) c;rwa [show i+(j+1)=i+1+j by omega] at this
theorem G6:∀(l:List Rec) (i j:Nat) (D:Nat->Bool) (t:Nat) (x:Option (Option V)) (r:Rec),l[j]?=some r->D (i+j)=true->r.dst=some t->
  (∀k b,j<k->l[k]?=some b->b.dst=some t->D (i+k)=false)->yo i l D t x=some r.val
 | [],_,_,_,_,_,_,h,_,_,_=>by simp at h
 | r0::l,i,0,D,t,x,r,h,e,d,a=>by
  simp only [mz,av] at h;subst h;simp only [cP] at e;simp only [yo];rw [ae ⟨e,d⟩];exact Ai l (i+1) D t _ λk b f c=>by have:=a (k+1) b (by omega) (by simpa using f) c;rwa [show i+(k+1)=i+1+k by omega] at this
 | r0::l,i,j+1,D,t,x,r,h,e,d,a=>by
  simp only [yo]
  exact G6 l (i+1) j D t _ r (by simpa using h) (by rwa [show i+1+j=i+(j+1) by omega]) d λk b f g c=>by
   have:=a (k+1) b (by omega) (by simpa using g) c;rwa [show i+(k+1)=i+1+k by omega] at this
theorem pM:∀(l:List Rec) (i:Nat) (D a:Nat->Bool) (b:Nat) (x:Option Blk),(∀j r,l[j]?=some r->b∈keys r.wr->D (i+j)=a (i+j))->wI i l D b x=wI i l a b x
 | [],_,_,_,_,_,_=>rfl
 | r::l,i,D,a,b,x,h=>by
  simp only [wI];have d:=h 0 r (by simp);simp only [cP] at d;rw [pM l (i+1) D a b _ λj f g e=>by have:=h (j+1) f (by simpa using g) e;rwa [show i+(j+1)=i+1+j by omega] at this];congr 1;by_cases c:b∈keys r.wr
  ·rw [d c]
  ·simp [rr c]
theorem Jv (l:List Rec) (i:Nat) (D:Nat->Bool) (b:Nat) (x:Option Blk) (h:∀j r,l[j]?=some r->b∈keys r.wr->D (i+j)=false):wI i l D b x=x:=by
 induction l generalizing i x with
 | nil=>rfl
 | cons r l ih=>
  simp only [wI];have c:=h 0 r (by simp);simp only [cP] at c;have:(if D i=true then (look r.wr b).or x else x)=x:=by
   by_cases a:b∈keys r.wr
   ·rw [c a];simp
   ·rw [rr a];simp
  rw [this];exact ih (i+1) x λj e f d=>by have:=h (j+1) e (by simpa using f) d;rwa [show i+(j+1)=i+1+j by omega] at this
theorem HU:∀(l:List Rec) (i j:Nat) (D:Nat->Bool) (b:Nat) (x:Option Blk) (r:Rec),l[j]?=some r->D (i+j)=true->b∈keys r.wr->
  (∀k c,j<k->l[k]?=some c->b∈keys c.wr->D (i+k)=false)->wI i l D b x=look r.wr b
 | [],_,_,_,_,_,_,h,_,_,_=>by simp at h
 | r0::l,i,0,D,b,x,r,h,f,e,a=>by
  simp only [mz,av] at h;subst h;simp only [cP] at f;simp only [wI];obtain ⟨v,m⟩:=rX e;rw [ae f,m];exact Jv l (i+1) D b _ λk c g d=>by have:=a (k+1) c (by omega) (by simpa using g) d;rwa [show i+(k+1)=i+1+k by omega] at this
 | r0::l,i,j+1,D,b,x,r,h,f,e,a=>by
  simp only [wI]
  exact HU l (i+1) j D b _ r (by simpa using h) (by rwa [show i+1+j=i+(j+1) by omega]) e λk c g n d=>by
   have:=a (k+1) c (by omega) (by simpa using n) d;rwa [show i+(k+1)=i+1+k by omega] at this
theorem rJ:∀(l:List Rec) (i j:Nat) (s:St),Eqv ((l.take j).foldl St.put s) (appD i l (λm=>decide (m<i+j)) s)
 | [],i,j,s=>by simp [appD];exact Eqv.refl s
 | r::l,i,0,s=>by
  have:∀(l:List Rec) (i a:Nat) (s:St),i<=a->appD a l (λm=>decide (m<i)) s=s:=by
   intro l
   induction l with
   | nil=>intros;rfl
   | cons r l ih=>intro i a s h;simp only [appD,show ¬a<i by omega,nH,bw,aC];exact ih i (a+1) s (by omega)
  simp only [mM,H3,cP];rw [this (r::l) i i s (aV _)];exact Eqv.refl s
 | r::l,i,j+1,s=>by
  simp only [mK,vw,appD,show i<i+(j+1) by omega,oy,aO];have:=rJ l (i+1) j (s.put r);rwa [show (λm=>decide (m<i+1+j))=λm=>decide (m<i+(j+1)) by funext m;simp only [mI];omega] at this
theorem Be:∀(l:List Rec) (i:Nat) (D:Nat->Bool) (s:St),(∀j,j<l.length->D (i+j)=true)->appD i l D s=l.foldl St.put s
 | [],_,_,_,_=>rfl
 | r::l,i,D,s,h=>by
  have a:=h 0 (by simp);simp only [cP] at a;simp only [appD,a,aO,vw];exact Be l (i+1) D _ λj b=>by have:=h (j+1) (by simpa using b);rwa [show i+(j+1)=i+1+j by omega] at this
def vb (P:Program) (n nb0:Nat) (ops:List Oper) (i:Nat) (o:Oper) (r:Rec) (base:St):Prop:=
 ∀s':St,(∀t∈o.looksAt ops.toArray,look s'.T t=look base.T t)->(∀b∈r.rd,look s'.H b=look base.H b)->s'.nb=base.nb->s'.ro=base.ro->
  ∀(ι0:Inj) (w0:Base) (ι:Inj) (a:Act) (w:World),Inv n ι0 w0 ι s' a w->(∀b,nb0+8*i<=b->b<nb0+8*i+8->ι b=none)->∀(K:Act->World->Prop) (Q:Exit->Act->World->Prop),
   (∀c d w',(∀b,(b<nb0+8*i\/nb0+8*i+8<=b)->c b=ι b)->Inv n ι0 w0 c (s'.put r) d w'->K d w')->
   if Region.wanted o (yielded ops.toArray a.tmps) then o.wp P a w K Q else K (a.put o.dst undef) w
def zP (P:Program) (n nb0:Nat) (ops:List Oper) (i:Nat) (o:Oper) (v:V) (wr:List (Nat×Blk)) (rd:List Nat) (base:St):Prop:=
 ∀s':St,(∀t∈o.looksAt ops.toArray,look s'.T t=look base.T t)->(∀b∈rd,look s'.H b=look base.H b)->s'.nb=base.nb->s'.ro=base.ro->
  ∀(ι0:Inj) (w0:Base) (ι:Inj) (a:Act) (w:World),Inv n ι0 w0 ι s' a w->(∀b,nb0+8*i<=b->b<nb0+8*i+8->ι b=none)->∀(K:Act->World->Prop) (Q:Exit->Act->World->Prop),
   (∀c x w',VR c v x->Inv n ι0 w0 c (s'.app none none wr s'.nb) a w'->Q (.panic [{ v:=x,recovered:=false }]) a w')->
   Region.wanted o (yielded ops.toArray a.tmps)=true/\o.wp P a w K Q
theorem zP.eqv {n nb0:Nat} {ops:List Oper} {i:Nat} {o:Oper} {v:V} {wr:List (Nat×Blk)} {rd:List Nat} {base C:St} (h:zP P n nb0 ops i o v wr rd base) (e:Eqv base C):zP P n nb0 ops i o v wr rd C:=
 λs' F J Q O=>h s' (λt E=>by rw [F t E,e.T]) (λb G=>by rw [J b G,e.H]) (by rw [Q,e.nb]) (by rw [O,e.ro])
theorem vb.eqv {n nb0:Nat} {ops:List Oper} {i:Nat} {o:Oper} {r:Rec} {base C:St} (h:vb P n nb0 ops i o r base) (e:Eqv base C):vb P n nb0 ops i o r C:=
 λs' F J Q O=>h s' (λt E=>by rw [F t E,e.T]) (λb G=>by rw [J b G,e.H]) (by rw [Q,e.nb]) (by rw [O,e.ro])
theorem Aa {α:Type} {ops:List Oper} {o:Oper} {s:St} {k:Bool->St->Option α} {z:α} (h:xF ops o s k=some z):
  ∃c r,k c r=some z/\Eqv r s/\∀s':St,(∀t∈o.looksAt ops.toArray,look s'.T t=look s.T t)->∀(n:Nat) (ι0 ι:Inj) (w0:Base) (a:Act) (w:World),Inv n ι0 w0 ι s' a w->
   Region.wanted o (yielded ops.toArray a.tmps)=c:=by
 unfold xF at h;split at h
 ·rename_i l;exact ⟨true,s,h,Eqv.refl s,λ_ _ _ _ _ _ _ _ _=>by simp [Region.wanted,l]⟩
 ·rename_i j c l;split at h
  case h_2=>cases h
  rename_i d i;have f:d∈o.looksAt ops.toArray:=by
   unfold Oper.looksAt;unfold gtmp at i;split at i
   ·rename_i u q;simp [l,q,i]
   ·cases i
  have again:∀x,look s.T d=some (some (.b x))->Eqv { s with T:=(d,some (V.b x))::s.T } s:=by
   intro x hx;refine ⟨λt=>?_,λ_=>rfl,rfl,rfl,rfl,rfl⟩;show look ((d,some (V.b x))::s.T) t=look s.T t;rw [aY];split
   ·rename_i e;subst e;exact hx.symm
   ·rfl
  split at h
  ·rename_i x hx;cases x
   ·refine ⟨!c,_,h,again _ hx,λs' hs n ι0 ι w0 a w p=>?_⟩;obtain ⟨y,m,g⟩:=p.tmps d _ (by rw [hs d f];exact hx);simp only [VR] at g;subst g;have hy:=sA i a.tmps;rw [m] at hy;cases c<;>simp [Region.wanted,l,hy]
   ·refine ⟨c,_,h,again _ hx,λs' hs n ι0 ι w0 a w p=>?_⟩;obtain ⟨y,m,g⟩:=p.tmps d _ (by rw [hs d f];exact hx);simp only [VR] at g;subst g;have hy:=sA i a.tmps;rw [m] at hy;cases c<;>simp [Region.wanted,l,hy]
  ·rename_i hx;refine ⟨false,s,h,Eqv.refl s,λs' hs n ι0 ι w0 a w p=>?_⟩;obtain ⟨y,m,g⟩:=p.tmps d _ (by rw [hs d f];exact hx);simp only [VR] at g;obtain ⟨v,rfl,_⟩:=g;have hy:=sA i a.tmps;rw [m] at hy;simp [Region.wanted,l,hy]
  ·cases h
theorem yw {ops:Array Oper} {o:Oper} {s s':St} (h:∀t∈o.looksAt ops,look s'.T t=look s.T t):∀x∈o.op.operands.toList,opd s'.T x=opd s.T x:=by
 intro x hx;cases x with
 | tmp t=>
  have:=h t (by
   unfold Oper.looksAt;simp only [mJ,List.mem_filterMap];exact .inl ⟨.tmp t,hx,rfl⟩)
  simp only [opd,this]
 | _=>rfl
theorem Of {α:Type} {E:List Ent} (Y:∀x∈E,fW P x) {n nb0:Nat} {ops:List Oper} {masks:List Nat} {p:Nat} {k:List TE->Option α} {z:α}:∀(l:List Oper) (i:Nat) (s:St) (tr:List TE),
  nb0+8*(i+l.length)<=s.nb->runB P E n nb0 ops masks p i l s tr k=some z->
  ∃(recs:List Rec) (trf:List TE),recs.length=l.length/\k trf=some z/\(∀x∈tr,x∈trf)/\
   (∀j r,recs[j]?=some r->(⟨i+j,r.rd,keys r.wr⟩:TE)∈trf\/(r.rd=[]/\r.wr=[]))/\
   ∀(j:Nat) (o:Oper) (r:Rec),l[j]?=some o->recs[j]?=some r->r.dst=o.dst/\((getN masks (i+j)).testBit p=false->vb P n nb0 ops (i+j) o r ((recs.take j).foldl St.put s))
 | [],i,s,tr,D,h=>⟨[],tr,rfl,h,λ_ h=>h,λj r h=>by simp at h,λj o r h=>by simp at h⟩
 | o::l,i,s,tr,D,h=>by
  simp only [aE] at D;simp only [runB] at h;have more:∀(e:Rec) (d:List TE) (C:St),e.dst=o.dst->((getN masks i).testBit p=false->vb P n nb0 ops i o e s)->Eqv C (s.put e)->s.nb<=C.nb->(∀x∈tr,x∈d)->((⟨i,e.rd,keys e.wr⟩:TE)∈d\/(e.rd=[]/\e.wr=[]))->
    runB P E n nb0 ops masks p (i+1) l C d k=some z->∃(recs:List Rec) (trf:List TE),recs.length=(o::l).length/\k trf=some z/\(∀x∈tr,x∈trf)/\
   (∀j r,recs[j]?=some r->(⟨i+j,r.rd,keys r.wr⟩:TE)∈trf\/(r.rd=[]/\r.wr=[]))/\
   ∀(j:Nat) (y:Oper) (r:Rec),(o::l)[j]?=some y->recs[j]?=some r->r.dst=y.dst/\((getN masks (i+j)).testBit p=false->vb P n nb0 ops (i+j) y r ((recs.take j).foldl St.put s)):=by
   intro e d C L hl e2 Z N R h;obtain ⟨recs,trf,g1,g2,g4,g5,g6⟩:=Of Y l (i+1) C d (by omega) h;refine ⟨e::recs,trf,by simp [g1],g2,λx hx=>g4 x (N x hx),λj r m=>?_,λj y r M m=>?_⟩
   ·cases j with
    | zero=>simp only [mz,av] at m;subst m;exact R.imp (g4 _) id
    | succ j=>have:=g5 j r (by simpa using m);rwa [show i+1+j=i+(j+1) by omega] at this
   ·cases j with
    | zero=>
     simp only [mz,av] at M m;subst M m;exact ⟨L,hl⟩
    | succ j=>
     obtain ⟨p1,p2⟩:=g6 j y r (by simpa using M) (by simpa using m);rw [show i+1+j=i+(j+1) by omega] at p2;exact ⟨p1,λu=>(p2 u).eqv (by simpa using Eqv.puts (recs.take j) e2)⟩
  split at h
  ·rename_i F;exact more ⟨o.dst,none,[],[]⟩ tr (s.app o.dst none [] s.nb) rfl (λu=>by rw [F] at u;cases u) (Eqv.refl _) (aV _) (λ_ h=>h) (.inr ⟨rfl,rfl⟩) h
  obtain ⟨I,A,h,q,V⟩:=Aa h;have c:A.nb=s.nb:=q.nb;cases I
  ·simp only at h;split at h
   case h_2=>cases h
   rename_i L;refine more ⟨o.dst,some (.tp []),[],[]⟩ tr (A.app o.dst (some (.tp [])) [] A.nb) rfl (λ_ s' J X W q4 ι0 w0 ι a w B G K Q U=>?_) (q.put ⟨o.dst,some (.tp []),[],[]⟩) (xI c.symm) (λ_ h=>h) (.inr ⟨rfl,rfl⟩) h;rw [V s' J n ι0 ι w0 a w B];simp only [bw,aC];exact U ι _ _ (λ_ _=>rfl) (B.skip L)
  ·simp only at h;rcases Ea Y (by omega) h with ⟨val,wr,rd,g,S,f⟩ | ⟨v,wr,rd,S,f⟩
   ·refine more ⟨o.dst,val,wr,rd⟩ (⟨i,rd,keys wr⟩::tr) (A.app o.dst val wr A.nb) rfl (λ_ s' J X W q4 ι0 w0 ι a w B G K Q U=>?_) (q.put ⟨o.dst,val,wr,rd⟩) (xI c.symm) (λx hx=>fi _ hx) (.inl (by simp [keys])) S;rw [V s' J n ι0 ι w0 a w B];simp only [aO];refine f s' (yw λt ht=>by rw [J t ht,q.T]) (λb u=>by rw [X b u,q.H]) (by rw [W,c]) (by rw [q4,q.ro]) ι0 w0 ι a w B (by simpa using G) K Q λO a' w' z1 z2=>U O a' w' (by simpa using z1) z2
   ·cases S
theorem Au {α:Type} {E:List Ent} (hE:∀x∈E,fW P x) {n nb0:Nat} {ops:List Oper} {masks:List Nat} {k:St->List TE->Option α} {kp:Nat->V->St->List TE->Option α} {z:α}:∀(l:List Oper) (i:Nat) (s:St) (tr:List TE),
  nb0+8*(i+l.length)<=s.nb->runD P E n nb0 ops masks kp i l s tr k=some z->
  (∃(recs:List Rec) (d:St) (trf:List TE),recs.length=l.length/\k d trf=some z/\Eqv d (recs.foldl St.put s)/\(∀x∈tr,x∈trf)/\
   (∀j r,recs[j]?=some r->(⟨i+j,r.rd,keys r.wr⟩:TE)∈trf\/(r.rd=[]/\r.wr=[]))/\
   ∀(j:Nat) (o:Oper) (r:Rec),l[j]?=some o->recs[j]?=some r->r.dst=o.dst/\vb P n nb0 ops (i+j) o r ((recs.take j).foldl St.put s))\/
  (∃(p:Nat) (op:Oper) (recs:List Rec) (d:St) (L:St) (trf:List TE) (v:V) (wr:List (Nat×Blk)) (y:Rec),recs.length=l.length/\l[p]?=some op/\recs[p]?=some y/\y.dst=op.dst/\y.wr=[]/\L=d.app none none wr d.nb/\kp (i+p) v L trf=some z/\Eqv d ((recs.take p).foldl St.put s)/\(∀x∈tr,x∈trf)/\
   zP P n nb0 ops (i+p) op v wr y.rd ((recs.take p).foldl St.put s)/\
   (∀j r,recs[j]?=some r->j≠p->(⟨i+j,r.rd,keys r.wr⟩:TE)∈trf\/(r.rd=[]/\r.wr=[]))/\
   ∀(j:Nat) (o:Oper) (r:Rec),l[j]?=some o->recs[j]?=some r->r.dst=o.dst/\((j<p\/(p<j/\(getN masks (i+j)).testBit (i+p)=false))->vb P n nb0 ops (i+j) o r ((recs.take j).foldl St.put s)))
 | [],i,s,tr,hnb,h=>.inl ⟨[],s,tr,rfl,h,Eqv.refl s,λ_ h=>h,λj r h=>by simp at h,λj o r h=>by simp at h⟩
 | o::l,i,s,tr,hnb,h=>by
  simp only [aE] at hnb;simp only [runD] at h;obtain ⟨want,F,h,u,hw⟩:=Aa h;have e:F.nb=s.nb:=u.nb;have more:∀(B:Rec) (q:List TE) (Z:St),B.dst=o.dst->vb P n nb0 ops i o B s->Eqv Z (s.put B)->s.nb<=Z.nb->(∀x∈tr,x∈q)->((⟨i,B.rd,keys B.wr⟩:TE)∈q\/(B.rd=[]/\B.wr=[]))->
    runD P E n nb0 ops masks kp (i+1) l Z q k=some z->
    (∃(recs:List Rec) (d:St) (trf:List TE),recs.length=(o::l).length/\k d trf=some z/\Eqv d (recs.foldl St.put s)/\(∀x∈tr,x∈trf)/\
   (∀j r,recs[j]?=some r->(⟨i+j,r.rd,keys r.wr⟩:TE)∈trf\/(r.rd=[]/\r.wr=[]))/\
   ∀(j:Nat) (f:Oper) (r:Rec),(o::l)[j]?=some f->recs[j]?=some r->r.dst=f.dst/\vb P n nb0 ops (i+j) f r ((recs.take j).foldl St.put s))\/
    (∃(p:Nat) (op:Oper) (recs:List Rec) (d:St) (L:St) (trf:List TE) (v:V) (wr:List (Nat×Blk)) (y:Rec),recs.length=(o::l).length/\(o::l)[p]?=some op/\recs[p]?=some y/\y.dst=op.dst/\y.wr=[]/\L=d.app none none wr d.nb/\kp (i+p) v L trf=some z/\Eqv d ((recs.take p).foldl St.put s)/\(∀x∈tr,x∈trf)/\
   zP P n nb0 ops (i+p) op v wr y.rd ((recs.take p).foldl St.put s)/\
   (∀j r,recs[j]?=some r->j≠p->(⟨i+j,r.rd,keys r.wr⟩:TE)∈trf\/(r.rd=[]/\r.wr=[]))/\
   ∀(j:Nat) (f:Oper) (r:Rec),(o::l)[j]?=some f->recs[j]?=some r->r.dst=f.dst/\((j<p\/(p<j/\(getN masks (i+j)).testBit (i+p)=false))->vb P n nb0 ops (i+j) f r ((recs.take j).foldl St.put s))):=by
   intro B q Z hd hl J hnb2 W X h;rcases Au hE l (i+1) Z q (by omega) h with ⟨recs,d,trf,R,N,g3,M,U,g6⟩ | ⟨p,op,recs,d,L,trf,v,wr,y,R,g0,gr,gd,gw,gs,N,g3,M,g7,U,g6⟩
   ·refine .inl ⟨B::recs,d,trf,by simp [R],N,g3.trans (Eqv.puts recs J),λx hx=>M x (W x hx),λj r c=>?_,λj f r m c=>?_⟩
    ·cases j with
     | zero=>simp only [mz,av] at c;subst c;exact X.imp (M _) id
     | succ j=>have:=U j r (by simpa using c);rwa [show i+1+j=i+(j+1) by omega] at this
    ·cases j with
     | zero=>
      simp only [mz,av] at m c;subst m c;exact ⟨hd,hl⟩
     | succ j=>
      obtain ⟨p1,D⟩:=g6 j f r (by simpa using m) (by simpa using c);rw [show i+1+j=i+(j+1) by omega] at D;exact ⟨p1,D.eqv (by simpa using Eqv.puts (recs.take j) J)⟩
   ·rw [show i+1+p=i+(p+1) by omega] at N g7;refine .inr ⟨p+1,op,B::recs,d,L,trf,v,wr,y,by simp [R],by simpa using g0,by simpa using gr,gd,gw,gs,N,g3.trans (by simpa using Eqv.puts (recs.take p) J),λx hx=>M x (W x hx),g7.eqv (by simpa using Eqv.puts (recs.take p) J),λj r c Y=>?_,λj f r m c=>?_⟩
    ·cases j with
     | zero=>simp only [mz,av] at c;subst c;exact X.imp (M _) id
     | succ j=>have:=U j r (by simpa using c) (by omega);rwa [show i+1+j=i+(j+1) by omega] at this
    ·cases j with
     | zero=>
      simp only [mz,av] at m c;subst m c;exact ⟨hd,λ_=>hl⟩
     | succ j=>
      obtain ⟨p1,D⟩:=g6 j f r (by simpa using m) (by simpa using c);rw [show i+1+j=i+(j+1) by omega,show i+1+p=i+(p+1) by omega] at D;exact ⟨p1,λhc=>(D (hc.imp (λh=>by omega) λh=>⟨by omega,h.2⟩)).eqv (by simpa using Eqv.puts (recs.take j) J)⟩
  cases want
  ·simp only at h;split at h
   case h_2=>cases h
   rename_i hd;refine more ⟨o.dst,some (.tp []),[],[]⟩ tr (F.app o.dst (some (.tp [])) [] F.nb) rfl (λs' I S O q4 ι0 w0 ι a w G C K Q hK=>?_) (u.put ⟨o.dst,some (.tp []),[],[]⟩) (xI e.symm) (λ_ h=>h) (.inr ⟨rfl,rfl⟩) h;rw [hw s' I n ι0 ι w0 a w G];simp only [bw,aC];exact hK ι _ _ (λ_ _=>rfl) (G.skip hd)
  ·simp only at h;rcases Ea hE (by omega) h with ⟨val,wr,rd,g,hk,A⟩ | ⟨v,wr,rd,hk,A⟩
   ·refine more ⟨o.dst,val,wr,rd⟩ (⟨i,rd,keys wr⟩::tr) (F.app o.dst val wr F.nb) rfl (λs' I S O q4 ι0 w0 ι a w G C K Q hK=>?_) (u.put ⟨o.dst,val,wr,rd⟩) (xI e.symm) (λx hx=>fi _ hx) (.inl (by simp [keys])) hk;rw [hw s' I n ι0 ι w0 a w G];simp only [aO];refine A s' (yw λt ht=>by rw [I t ht,u.T]) (λb hb=>by rw [S b hb,u.H]) (by rw [O,e]) (by rw [q4,u.ro]) ι0 w0 ι a w G (by simpa using C) K Q λι' a' w' z1 z2=>hK ι' a' w' (by simpa using z1) z2
   ·obtain ⟨recs,trf,R,N,M,U,g6⟩:=Of hE l (i+1) _ tr (by simp only [St.app];omega) hk;have J:Eqv (F.app o.dst none [] F.nb) (s.put ⟨o.dst,none,[],rd⟩):=u.put ⟨o.dst,none,[],rd⟩;refine .inr ⟨0,o,⟨o.dst,none,[],rd⟩::recs,F,_,trf,v,wr,⟨o.dst,none,[],rd⟩,by simp [R],rfl,rfl,rfl,rfl,rfl,N,u,M,λs' I S O q4 ι0 w0 ι a w G C K Q hK=>?_,λj r c Y=>?_,λj f r m c=>?_⟩
    ·simp only [mM,H3] at I S O q4;exact ⟨hw s' I n ι0 ι w0 a w G,A s' (yw λt ht=>by rw [I t ht,u.T]) (λb hb=>by rw [S b hb,u.H]) (by rw [O,e]) (by rw [q4,u.ro]) ι0 w0 ι a w G (by simpa using C) K Q hK⟩
    ·cases j with
     | zero=>exact absurd rfl Y
     | succ j=>have:=U j r (by simpa using c);rwa [show i+1+j=i+(j+1) by omega] at this
    ·cases j with
     | zero=>
      simp only [mz,av] at m c;subst m c;exact ⟨rfl,λh=>by omega⟩
     | succ j=>
      obtain ⟨p1,D⟩:=g6 j f r (by simpa using m) (by simpa using c);rw [show i+1+j=i+(j+1) by omega] at D;refine ⟨p1,λhc=>(D ?_).eqv (by simpa using Eqv.puts (recs.take j) J)⟩;rcases hc with hc | hc
      ·omega
      ·exact hc.2
def Down (ops:List Oper) (D:Nat->Bool):Prop:=∀j o e,ops[j]?=some o->D j=true->e∈o.after.toList->Region.binds .any e=true->D e.on=true
def Must (ops:List Oper) (i j:Nat):Prop:=∀D,Down ops D->D j=true->D i=true
def Dn (a:Array Bool):Nat->Bool:=λi=>a.getD i false
structure DrawFacts (P:Program) (n nb0:Nat) (ops:List Oper) (recs:List Rec) (s0:St) (live:Nat->Prop):Prop where
 len:recs.length=ops.length
 nb:s0.nb=nb0+8*ops.length
 loc:∀(j:Nat) (o:Oper) (r:Rec),ops[j]?=some o->recs[j]?=some r->(∀t,r.dst=some t->o.dst=some t)/\(live j->vb P n nb0 ops j o r (appD 0 recs (λm=>decide (m<j)) s0))
 down:∀(j:Nat) (o:Oper) (e:Edge),ops[j]?=some o->e∈o.after.toList->Region.binds .any e=true->e.on<j
 apart:∀(i j:Nat) (x y:Oper),i<j->ops[i]?=some x->ops[j]?=some y->Must ops i j\/x.apart ops.toArray y=true
 blk:∀(i j:Nat) (x y:Rec),i<j->recs[i]?=some x->recs[j]?=some y->Must ops i j\/((∀b∈keys x.wr,b∉y.rd/\b∉keys y.wr)/\∀b∈x.rd,b∉keys y.wr)
theorem uB {ops:List Oper} {a:Array Bool} {i:Nat} (hs:a.size=ops.length) (h:i∈Region.ready .any ops.toArray a):
  ∃o,ops[i]?=some o/\i<ops.length/\Dn a i=false/\∀e∈o.after.toList,Region.binds .any e=true->Dn a e.on=true:=by
 unfold Region.ready at h;simp only [lz,la,aA,yn] at h;obtain ⟨f,c,b⟩:=h;have d:ops[i]?=some ops[i]:=by simp [f]
 refine ⟨ops[i],d,f,?_,λe j g=>?_⟩
 ·unfold Dn;have:i<a.size:=by omega
  simp only [rK,Vu this,ya] at c ⊢;simpa using c
 ·simp only [List.getElem?_toArray,d,fa,ya] at b;have:=(Array.all_eq_true'.1 b) e (by simpa using j);simp only [g,cZ,oP] at this;exact this
theorem B6 {ops:List Oper} {a:Array Bool} {i:Nat} {o:Oper} (hs:a.size=ops.length) (d:ops[i]?=some o) (b:Dn a i=false)
  (f:∀e∈o.after.toList,Region.binds .any e=true->Dn a e.on=true):i∈Region.ready .any ops.toArray a:=by
 have hi:i<ops.length:=by
  rcases aH i ops.length with c | c
  ·exact c
  ·rw [gU c] at d;cases d
 unfold Region.ready;simp only [lz,la,aA,yn];refine ⟨hi,?_,?_⟩
 ·have:i<a.size:=by omega
  unfold Dn at b;simp only [rK,Vu this,ya] at b ⊢;simp [b]
 ·simp only [List.getElem?_toArray,d,fa,ya];refine Array.all_eq_true'.2 λe h=>?_;cases g:Region.binds .any e with
  | false=>rfl
  | true=>
   have:=f e (by simpa using h) g;unfold Dn at this;simpa using this
theorem Ao {a:Array Bool} {i:Nat} (h:i<a.size) (j:Nat):Dn (a.setIfInBounds i true) j=if j=i then true else Dn a j:=by
 unfold Dn;simp only [rK];rw [S7];by_cases b:i=j
 ·subst b;simp [h]
 ·simp [b,show ¬j=i from λe=>b e.symm]
theorem Down.add {ops:List Oper} {D:Nat->Bool} (h:Down ops D) {i:Nat} {o:Oper} (Q:ops[i]?=some o) (O:∀e∈o.after.toList,Region.binds .any e=true->D e.on=true):
  Down ops λj=>if j=i then true else D j:=by
 intro j U e E G J F;show (if e.on=i then true else D e.on)=true;by_cases C:j=i
 ·subst C;rw [Q] at E;cases E;have:=O e J F;split
  ·rfl
  ·exact this
 ·simp only [C,aC] at G;have:=h j U e E G J F;split
  ·rfl
  ·exact this
theorem Must.in {ops:List Oper} {D:Nat->Bool} (h:Down ops D) {i k:Nat} {o:Oper} (E:ops[i]?=some o) (F:∀e∈o.after.toList,Region.binds .any e=true->D e.on=true)
  (G:Must ops k i) (C:k≠i):D k=true:=by
 have:=G _ (h.add E F) (by simp);simpa [C] using this
section
variable {n nb0:Nat} {ops:List Oper} {recs:List Rec} {s0:St} {live:Nat->Prop} (F:DrawFacts P n nb0 ops recs s0 live)
include F
theorem wL {i:Nat} {o:Oper} (h:ops[i]?=some o):∃r,recs[i]?=some r:=by
 have hi:i<ops.length:=by
  rcases aH i ops.length with a | a
  ·exact a
  ·rw [gU a] at h;cases h
 exact ⟨recs[i]'(by rw [F.len];exact hi),by simp [F.len,hi]⟩
theorem xZ {i:Nat} {r:Rec} (h:recs[i]?=some r):∃o,ops[i]?=some o:=by
 have hi:i<recs.length:=by
  rcases aH i recs.length with a | a
  ·exact a
  ·rw [gU a] at h;cases h
 exact ⟨ops[i]'(by rw [<-F.len];exact hi),by simp [F.len▸hi]⟩
theorem Bf {D:Nat->Bool} (v:Down ops D) {i:Nat} {o:Oper} (n:ops[i]?=some o) (s:D i=false) (x:∀e∈o.after.toList,Region.binds .any e=true->D e.on=true)
  {t:Nat} (q:t∈o.looksAt ops.toArray):look (appD 0 recs D s0).T t=look (appD 0 recs (λm=>decide (m<i)) s0).T t:=by
 rw [Ac,Ac];refine tf recs 0 _ _ t _ λj r u w=>?_;simp only [dk];obtain ⟨f,b⟩:=xZ F u;have a:=((F.loc j f r b u).1 t w).symm;rcases FU j i with d | l | k
 ·have p:D j=true:=by
   rcases F.apart j i f o d b n with h | c
   ·exact h.in v n x (by omega)
   ·exact absurd q ((Gn c).1 t a.symm)
  rw [p];simp [d]
 ·subst l;simp [s]
 ·have p:D j=false:=by
   rcases F.apart i j o f k n b with h | c
   ·cases g:D j with
    | false=>rfl
    | true=>have:=h D v g;rw [s] at this;cases this
   ·exact absurd q ((Gn c).2.2 t a.symm)
  rw [p];simp;omega
theorem A9 {D:Nat->Bool} (u:Down ops D) {i:Nat} {o:Oper} {r:Rec} (w:ops[i]?=some o) (n:recs[i]?=some r) (q:D i=false)
  (v:∀e∈o.after.toList,Region.binds .any e=true->D e.on=true) {b:Nat} (t:b∈r.rd):look (appD 0 recs D s0).H b=look (appD 0 recs (λm=>decide (m<i)) s0).H b:=by
 rw [xf,xf];refine pM recs 0 _ _ b _ λj p s l=>?_;simp only [dk];rcases FU j i with c | h | g
 ·have k:D j=true:=by
   rcases F.blk j i p r c s n with f | a
   ·exact f.in u w v (by omega)
   ·exact absurd t (a.1 b l).1
  rw [k];simp [c]
 ·subst h;simp [q]
 ·have k:D j=false:=by
   rcases F.blk i j r p g n s with f | a
   ·cases d:D j with
    | false=>rfl
    | true=>have:=f D u d;rw [q] at this;cases this
   ·exact absurd l (a.2 b t)
  rw [k];simp;omega
theorem B5 {D:Nat->Bool} (C:Down ops D) {i:Nat} {o:Oper} {r:Rec} (z:ops[i]?=some o) (f:recs[i]?=some r) (B:D i=false):
  Eqv ((appD 0 recs D s0).put r) (appD 0 recs (λj=>if j=i then true else D j) s0):=by
 have p:=(F.loc i o r z f).1;refine ⟨λt=>?_,λb=>?_,by rw [VB,lQ,lQ],by show (appD 0 recs D s0).lo=_;rw [yg,yg],by show (appD 0 recs D s0).ro=_;rw [jp,jp],by show (appD 0 recs D s0).rb=_;rw [yh,yh]⟩
 ·rw [PY,Ac,Ac];by_cases m:r.dst=some t
  ·rw [ae m];symm;refine G6 recs 0 i _ t _ r f (by simp) m λk g x c s=>?_;simp only [dk,show ¬k=i by omega,aC];obtain ⟨ok,n⟩:=xZ F c;have y:=(F.loc k ok g n c).1;rcases F.apart i k o ok x z n with u | d
   ·cases e:D k with
    | false=>rfl
    | true=>have:=u D C e;rw [B] at this;cases this
   ·exact absurd (y t s) ((Gn d).2.1 t (p t m))
  ·rw [ab m];refine tf recs 0 _ _ t _ λj g h w=>?_;simp only [dk];by_cases a:j=i
   ·subst a;rw [f] at h;cases h;exact absurd w m
   ·simp [a]
 ·rw [O6,xf,xf];by_cases l:b∈keys r.wr
  ·obtain ⟨v,A⟩:=rX l;rw [A,Option.some_or];symm;rw [<-A];refine HU recs 0 i _ b _ r f (by simp) l λk g x c q=>?_;simp only [dk,show ¬k=i by omega,aC];rcases F.blk i k r g x f c with u | d
   ·cases e:D k with
    | false=>rfl
    | true=>have:=u D C e;rw [B] at this;cases this
   ·exact absurd q (d.1 b l).2
  ·rw [rr l,Gw];refine pM recs 0 _ _ b _ λj g h q=>?_;simp only [dk];by_cases a:j=i
   ·subst a;rw [f] at h;cases h;exact absurd q l
   ·simp [a]
theorem D2 {kk:Nat} (z:∀j,kk<=j->j<ops.length->live j) {ι0:Inj} {w0:Base} {Q:Exit->Act->World->Prop} (U:∀ι a w,Inv n ι0 w0 ι (recs.foldl St.put s0) a w->Q .normal a w):
  ∀(fuel:Nat) (c:Array Bool) (ι:Inj) (a:Act) (w:World),c.size=ops.length->(∀j,j<kk->Dn c j=true)->Down ops (Dn c)->Inv n ι0 w0 ι (appD 0 recs (Dn c) s0) a w->
   (∀i,i<ops.length->Dn c i=false->∀b,nb0+8*i<=b->b<nb0+8*i+8->ι b=none)->((List.range ops.length).filter λi=>!Dn c i).length<=fuel->
   wpAny P .any ops.toArray Q fuel c a w:=by
 have fin:∀(c:Array Bool) (ι:Inj) (a:Act) (w:World),c.size=ops.length->Inv n ι0 w0 ι (appD 0 recs (Dn c) s0) a w->Region.ready .any ops.toArray c=[]->Q .normal a w:=by
  intro c ι a w hs q m;have A:∀j,j<ops.length->Dn c j=true:=by
   intro j
   induction j using Nat.strongRecOn with
   | _ j ih=>
    intro s;cases K:Dn c j with
    | true=>rfl
    | false=>
     have f:ops[j]?=some ops[j]:=by simp [s]
     have N:=B6 hs f K λe M E=>ih e.on (F.down j _ e f M E) (by have:=F.down j _ e f M E;omega);rw [m] at N;cases N
  rw [Be recs 0 (Dn c) s0 λj s=>by simpa using A j (by rw [<-F.len];exact s)] at q;exact U ι a w q
 intro fuel
 induction fuel with
 | zero=>
  intro c ι a w hs u C q x hc;have m:Region.ready .any ops.toArray c=[]:=by
   rw [List.eq_nil_iff_forall_not_mem];intro i hi;obtain ⟨o,f,g,p,_⟩:=uB hs hi;have:i∈(List.range ops.length).filter λi=>!Dn c i:=by simp [g,p]
   have:=Fa this;omega
  exact ⟨m,fin c ι a w hs q m⟩
 | succ fuel ih=>
  intro c ι a w hs u C q x hc;refine ⟨fin c ι a w hs q,λi hi=>?_⟩;obtain ⟨o,f,g,p,G⟩:=uB hs hi;obtain ⟨r,m⟩:=wL F f;have B:=(F.loc i o r f m).2 (z i (by rcases aH i kk with h | h;(· have:=u i h;rw [p] at this;cases this);exact h) g);have d:Dn (c.setIfInBounds i true)=λj=>if j=i then true else Dn c j:=by
   funext j;exact Ao (by omega) j
  have D:=B (appD 0 recs (Dn c) s0) (λt T=>Bf F C f p G T) (λb E=>A9 F C f m p G E) (by rw [lQ,lQ]) (by rw [jp,jp]) ι0 w0 ι a w q (x i g p)
   (wpAny P .any ops.toArray Q fuel (c.setIfInBounds i true)) Q λI R w' S O=>by
    refine ih _ I R w' (by simpa using hs) (λj s=>by rw [d];simp only;split;(· rfl);exact u j s) (by rw [d];exact C.add f G) (by rw [d];exact O.eqv (B5 F C f m p)) (λj s l b H J=>?_) ?_
    ·rw [d] at l;by_cases k:j=i
     ·simp [k] at l
     ·simp only [k,aC] at l;rw [S b (by omega)];exact x j s l b H J
    ·have:((List.range ops.length).filter λj=>!Dn (c.setIfInBounds i true) j).length<((List.range ops.length).filter λj=>!Dn c j).length:=by
      rw [d];have y:((List.range ops.length).filter λj=>!(if j=i then true else Dn c j))=((List.range ops.length).filter λj=>!Dn c j).filter λj=>decide (j≠i):=by
       rw [Ha];congr 1;funext j;by_cases k:j=i<;>simp [k]
      rw [y];refine BY.2 ⟨i,by simp [g,p],by simp⟩
     omega
  unfold wpOp;have L:ops.toArray[i]?=some o:=by simpa using f
  rw [L];simp only;split
  ·rename_i v;rw [ae v] at D;exact .inl D
  ·rename_i v;rw [ab v] at D;exact D
theorem PU {lim kk:Nat} (E:lim<ops.length) (g:∀j,kk<=j->j<lim->live j/\Must ops j lim) (q:∀j,lim<j->j<ops.length->Must ops lim j) {ι0:Inj} {w0:Base} {Q:Exit->Act->World->Prop}
  (Y:∀(fuel:Nat) (c:Array Bool) (ι:Inj) (a:Act) (w:World),c.size=ops.length->(∀j,j<lim->Dn c j=true)->Dn c lim=false->Down ops (Dn c)->Down ops (Dn (c.setIfInBounds lim true))->
   Inv n ι0 w0 ι (appD 0 recs (Dn c) s0) a w->((List.range ops.length).filter λi=>!Dn c i).length<=fuel+1->wpOp P ops.toArray Q lim (wpAny P .any ops.toArray Q fuel (c.setIfInBounds lim true)) a w):
  ∀(fuel:Nat) (c:Array Bool) (ι:Inj) (a:Act) (w:World),c.size=ops.length->(∀j,j<kk->Dn c j=true)->Down ops (Dn c)->Dn c lim=false->Inv n ι0 w0 ι (appD 0 recs (Dn c) s0) a w->
   (∀i,i<ops.length->Dn c i=false->∀b,nb0+8*i<=b->b<nb0+8*i+8->ι b=none)->((List.range ops.length).filter λi=>!Dn c i).length<=fuel->
   wpAny P .any ops.toArray Q fuel c a w:=by
 have fin:∀(c:Array Bool),c.size=ops.length->Dn c lim=false->Region.ready .any ops.toArray c=[]->False:=by
  intro c hs hp s;have D:∀j,j<ops.length->Dn c j=true:=by
   intro j
   induction j using Nat.strongRecOn with
   | _ j ih=>
    intro v;cases O:Dn c j with
    | true=>rfl
    | false=>
     have f:ops[j]?=some ops[j]:=by simp [v]
     have T:=B6 hs f O λe S I=>ih e.on (F.down j _ e f S I) (by have:=F.down j _ e f S I;omega);rw [s] at T;cases T
  rw [D lim E] at hp;cases hp
 intro fuel
 induction fuel with
 | zero=>
  intro c ι a w hs m p hp N z hc;have:lim∈(List.range ops.length).filter λi=>!Dn c i:=by simp [E,hp]
  have:=Fa this;omega
 | succ fuel ih=>
  intro c ι a w hs m p hp N z hc;refine ⟨λs=>(fin c hs hp s).elim,λi hi=>?_⟩;obtain ⟨o,f,u,x,A⟩:=uB hs hi;obtain ⟨r,s⟩:=wL F f;have d:Dn (c.setIfInBounds i true)=λj=>if j=i then true else Dn c j:=by
   funext j;exact Ao (by omega) j
  by_cases C:i=lim
  ·subst C;refine Y fuel c ι a w hs (λj v=>?_) x p (by rw [d];exact p.add f A) N hc;rcases aH j kk with h | h
   ·exact m j h
   ·exact (g j h v).2.in p f A (by omega)
  have R:ops.toArray[i]?=some o:=by simpa using f
  unfold wpOp;rw [R];simp only;have hlt':i<lim:=by
   rcases aH i lim with h | h
   ·exact h
   ·have:=(q i (by omega) u).in p f A (λe=>C e.symm);rw [hp] at this;cases this
  have K:kk<=i:=by
   rcases aH i kk with h | h
   ·have:=m i h;rw [x] at this;cases this
   ·exact h
  have G:=(F.loc i o r f s).2 (g i K hlt').1
  have H:=G (appD 0 recs (Dn c) s0) (λt X=>Bf F p f x A X) (λb I=>A9 F p f s x A I) (by rw [lQ,lQ]) (by rw [jp,jp]) ι0 w0 ι a w N (z i u x)
   (wpAny P .any ops.toArray Q fuel (c.setIfInBounds i true)) Q λL V w' W U=>by
    refine ih _ L V w' (by simpa using hs) (λj v=>by rw [d];simp only;split;(· rfl);exact m j v) (by rw [d];exact p.add f A) (by rw [d];simp only [show ¬lim=i by omega,aC];exact hp) (by rw [d];exact U.eqv (B5 F p f s x)) (λj v l b J M=>?_) ?_
    ·rw [d] at l;by_cases k:j=i
     ·simp [k] at l
     ·simp only [k,aC] at l;rw [W b (by omega)];exact z j v l b J M
    ·have:((List.range ops.length).filter λj=>!Dn (c.setIfInBounds i true) j).length<((List.range ops.length).filter λj=>!Dn c j).length:=by
      rw [d];have B:((List.range ops.length).filter λj=>!(if j=i then true else Dn c j))=((List.range ops.length).filter λj=>!Dn c j).filter λj=>decide (j≠i):=by
       rw [Ha];congr 1;funext j;by_cases k:j=i<;>simp [k]
      rw [B];refine BY.2 ⟨i,by simp [u,x],by simp⟩
     omega
  split
  ·rename_i y;rw [ae y] at H;exact .inl H
  ·rename_i y;rw [ab y] at H;exact H
theorem OY {lim:Nat} {ι0:Inj} {w0:Base} {Q:Exit->Act->World->Prop} {O:Oper} {pr:Rec} {v:V} {wr:List (Nat×Blk)} (g:ops[lim]?=some O) (H:recs[lim]?=some pr)
  (U:zP P n nb0 ops lim O v wr pr.rd (appD 0 recs (λm=>decide (m<lim)) s0))
  (z:∀j,j<ops.length->j≠lim->live j\/Must ops lim j)
  (hQ:∀D,Down ops D->(∀e∈O.after.toList,Region.binds .any e=true->D e.on=true)->D lim=false->∀ι x a w,VR ι v x->Inv n ι0 w0 ι ((appD 0 recs D s0).app none none wr s0.nb) a w->Q (.panic [{ v:=x,recovered:=false }]) a w):
  ∀(fuel:Nat) (c:Array Bool) (ι:Inj) (a:Act) (w:World),c.size=ops.length->Down ops (Dn c)->Dn c lim=false->Inv n ι0 w0 ι (appD 0 recs (Dn c) s0) a w->
   (∀i,i<ops.length->Dn c i=false->∀b,nb0+8*i<=b->b<nb0+8*i+8->ι b=none)->((List.range ops.length).filter λi=>!Dn c i).length<=fuel->
   wpAny P .any ops.toArray Q fuel c a w:=by
 have J:lim<ops.length:=by
  rcases aH lim ops.length with h' | h'
  ·exact h'
  ·rw [gU h'] at g;cases g
 have fin:∀(c:Array Bool),c.size=ops.length->Dn c lim=false->Region.ready .any ops.toArray c=[]->False:=by
  intro c hs hp h;have I:∀j,j<ops.length->Dn c j=true:=by
   intro j
   induction j using Nat.strongRecOn with
   | _ j ih=>
    intro Z;cases Y:Dn c j with
    | true=>rfl
    | false=>
     have f:ops[j]?=some ops[j]:=by simp [Z]
     have N:=B6 hs f Y λe he E=>ih e.on (F.down j _ e f he E) (by have:=F.down j _ e f he E;omega);rw [h] at N;cases N
  rw [I lim J] at hp;cases hp
 intro fuel
 induction fuel with
 | zero=>
  intro c ι a w hs s hp X u hc;have:lim∈(List.range ops.length).filter λi=>!Dn c i:=by simp [J,hp]
  have:=Fa this;omega
 | succ fuel ih=>
  intro c ι a w hs s hp X u hc;refine ⟨λh=>(fin c hs hp h).elim,λi hi=>?_⟩;obtain ⟨o,f,k,q,y⟩:=uB hs hi;obtain ⟨r,h⟩:=wL F f;have hoa:ops.toArray[i]?=some o:=by simpa using f
  unfold wpOp;rw [hoa];simp only;by_cases B:i=lim
  case neg=>
   rcases z i k B with S | N
   case inr=>
    have:=N.in s f y (λe=>B e.symm);rw [hp] at this;cases this
   have K:=(F.loc i o r f h).2 S;have d:Dn (c.setIfInBounds i true)=λj=>if j=i then true else Dn c j:=by
    funext j;exact Ao (by omega) j
   have L:=K (appD 0 recs (Dn c) s0) (λt ht=>Bf F s f q y ht) (λb E=>A9 F s f h q y E) (by rw [lQ,lQ]) (by rw [jp,jp]) ι0 w0 ι a w X (u i k q)
    (wpAny P .any ops.toArray Q fuel (c.setIfInBounds i true)) Q λA a' w' T M=>by
     refine ih _ A a' w' (by simpa using hs) (by rw [d];exact s.add f y) (by rw [d];simp only [show ¬lim=i by omega,aC];exact hp) (by rw [d];exact M.eqv (B5 F s f h q)) (λj Z p b R W=>?_) ?_
     ·rw [d] at p;by_cases l:j=i
      ·simp [l] at p
      ·simp only [l,aC] at p;rw [T b (by omega)];exact u j Z p b R W
     ·have:((List.range ops.length).filter λj=>!Dn (c.setIfInBounds i true) j).length<((List.range ops.length).filter λj=>!Dn c j).length:=by
       rw [d];have G:((List.range ops.length).filter λj=>!(if j=i then true else Dn c j))=((List.range ops.length).filter λj=>!Dn c j).filter λj=>decide (j≠i):=by
        rw [Ha];congr 1;funext j;by_cases l:j=i<;>simp [l]
       rw [G];refine BY.2 ⟨i,by simp [k,q],by simp⟩
      omega
   split
   ·rename_i C;rw [ae C] at L;exact .inl L
   ·rename_i C;rw [ab C] at L;exact L
  case pos=>
   subst B;rw [g] at f;cases f;rw [H] at h;cases h
   obtain ⟨q1,q2⟩:=U (appD 0 recs (Dn c) s0) (λt ht=>Bf F s g q y ht) (λb E=>A9 F s g H q y E) (by rw [lQ,lQ]) (by rw [jp,jp]) ι0 w0 ι a w X (u i k q)
    (wpAny P .any ops.toArray Q fuel (c.setIfInBounds i true)) Q λA x w' T M=>hQ _ s y q A x a w' T (by rw [lQ] at M;exact M)
   rw [ae q1];exact .inl q2
end
theorem En:∀{l:List Nat} {j:Nat},l.length<=j->getN l j=0
 | [],_,_=>rfl
 | _::_,0,h=>by simp at h
 | _::l,j+1,h=>En (l:=l) (by simpa using h)
theorem sR:∀{l m:List Nat} {j:Nat},j<l.length->getN (l++m) j=getN l j
 | [],_,_,h=>by simp at h
 | _::_,_,0,_=>rfl
 | _::l,m,j+1,h=>sR (l:=l) (m:=m) (by simpa using h)
theorem sO:∀(l:List Nat) (x:Nat),getN (l++[x]) l.length=x
 | [],_=>rfl
 | _::l,x=>sO l x
theorem tt (acc:List Nat):∀(l:List Edge) (s i:Nat),(CP acc l s).testBit i=true->s.testBit i=true\/∃e∈l,Region.binds .any e=true/\(e.on=i\/(getN acc e.on).testBit i=true)
 | [],s,i,h=>.inl h
 | e::l,s,i,h=>by
  simp only [CP] at h;split at h
  ·rename_i f;rcases tt acc l _ i h with a | ⟨d,b,c⟩
   ·simp only [Nat.testBit_or,g9] at a;rcases a with (a | a) | a
    ·exact .inl a
    ·refine .inr ⟨e,by simp,f,.inl ?_⟩;rw [Nat.testBit_two_pow] at a;simpa using a
    ·exact .inr ⟨e,by simp,f,.inr a⟩
   ·exact .inr ⟨d,fi _ b,c⟩
  ·rcases tt acc l _ i h with a | ⟨d,b,c⟩
   ·exact .inl a
   ·exact .inr ⟨d,fi _ b,c⟩
theorem qf (ops:List Oper):∀(r:List Oper) (acc:List Nat),(∀j,r[j]?=ops[acc.length+j]?)->(∀j i,(getN acc j).testBit i=true->Must ops i j)->
  ∀j i,(getN (kP r acc) j).testBit i=true->Must ops i j
 | [],acc,_,h=>h
 | o::r,acc,k,h=>by
  simp only [kP];refine qf ops r _ (λj=>by have:=k (j+1);simp only [G3] at this;rw [this];simp;congr 1;omega) λj i a=>?_;rcases FU j acc.length with g | f | n
  ·rw [sR g] at a;exact h j i a
  ·subst f;rw [sO] at a;have p:ops[acc.length]?=some o:=by have:=k 0;simpa using this.symm
   rcases tt acc _ _ _ a with b | ⟨e,q,d,b⟩
   ·simp at b
   ·intro D m c;have l:=m acc.length o e p c q d;rcases b with rfl | b
    ·exact l
    ·exact h e.on i b D m l
  ·rw [En (by simp;omega)] at a;simp at a
theorem jM:∀(l:List Oper) (i:Nat),qP i l=true->∀(j:Nat) (o:Oper) (e:Edge),l[j]?=some o->e∈o.after.toList->Region.binds .any e=true->e.on<i+j
 | [],_,_,_,_,_,h,_,_=>by simp at h
 | o::l,i,h,j,d,e,a,b,c=>by
  simp only [qP,aA,cv] at h;cases j with
  | zero=>
   simp only [mz,av] at a;subst a;have:=h.1 e b;simp only [c,cZ,oP] at this;exact aL this
  | succ j=>have:=jM l (i+1) h.2 j d e (by simpa using a) b c;omega
theorem sH {ops:Array Oper} {o:Oper} {a:Nat}:∀(l:List Oper) (i:Nat),uq ops o a i l=true->∀(j:Nat) (p:Oper),l[j]?=some p->a.testBit (i+j)=true\/p.apart ops o=true
 | [],_,_,_,_,h=>by simp at h
 | q::l,i,h,j,p,b=>by
  simp only [uq,aA,g9] at h;cases j with
  | zero=>simp only [mz,av] at b;subst b;exact h.1
  | succ j=>have:=sH l (i+1) h.2 j p (by simpa using b);rwa [show i+1+j=i+(j+1) by omega] at this
theorem nc {ops:Array Oper} {masks:List Nat}:∀(l a:List Oper),uz ops masks a.length a l=true->∀(i j:Nat) (x y:Oper),i<a.length+j->(a++l)[i]?=some x->l[j]?=some y->
  (getN masks (a.length+j)).testBit i=true\/x.apart ops y=true
 | [],_,_,_,_,_,_,_,_,h=>by simp at h
 | o::l,a,h,i,j,x,y,hi,hx,hy=>by
  simp only [uz,aA] at h;cases j with
  | zero=>
   simp only [mz,av] at hy;subst hy;have:=sH a 0 h.1 i x (by rw [nN (by simpa using hi)] at hx;exact hx);simpa using this
  | succ j=>
   have b:=h.2;rw [show a.length+1=(a++[o]).length by simp] at b;have:=nc l (a++[o]) b i j x y (by simp;omega) (by simpa using hx) (by simpa using hy);rwa [show (a++[o]).length+j=a.length+(j+1) by simp;omega] at this
theorem qX {masks:List Nat}:∀{tr:List TE},pS masks tr=true->∀x∈tr,∀y∈tr,x.i<y.i->wM masks x y=true\/wM masks y x=true
 | [],_,x,hx,_,_,_=>by cases hx
 | z::l,h,x,hx,y,hy,c=>by
  simp only [pS,aA,cv] at h;rcases cf.1 hx with b | b
  ·subst b;rcases cf.1 hy with a | a
   ·subst a;omega
   ·exact .inl (h.1 y a)
  ·rcases cf.1 hy with a | a
   ·subst a;exact .inr (h.1 x b)
   ·exact qX h.2 x b y a c
theorem wW {x y:TE} (h:Sl x y=false):(∀b∈x.ws,b∉y.rd/\b∉y.ws)/\∀b∈x.rd,b∉y.ws:=by
 simp only [Sl,pi,sP,g9,not_or,List.contains_iff_mem] at h;exact ⟨λb a=>h.1 b a,λb a=>h.2 b a⟩
theorem ER {masks:List Nat} {x y:TE} (h:wM masks x y=true\/wM masks y x=true) (e:x.i<y.i):
  (getN masks y.i).testBit x.i=true\/((∀b∈x.ws,b∉y.rd/\b∉y.ws)/\∀b∈x.rd,b∉y.ws):=by
 have k:Nat.blt x.i y.i=true:=cT e;have j:Nat.blt y.i x.i=false:=by
  cases g:Nat.blt y.i x.i with
  | false=>rfl
  | true=>have:y.i<x.i:=aL g;omega
 rcases h with h | h
 ·simp only [wM,k,ah,g9,kQ] at h;exact h.imp id wW
 ·simp only [wM,j,af,g9,kQ] at h;refine h.imp id λh=>?_;obtain ⟨a,b⟩:=wW h;exact ⟨λc hc=>⟨λf=>b c f hc,λd=>(a c d).2 hc⟩,λc hc d=>(a c d).1 hc⟩
theorem uU:∀(ops:List Oper) {T:List (Nat×Option V)} (t:Nat) (v:V),look (Jd ops T) t=some (some v)->(∀o∈ops,o.dst≠some t)/\look T t=some (some v)
 | [],T,t,v,h=>⟨by simp,h⟩
 | o::l,T,t,v,h=>by
  simp only [Jd] at h;split at h
  ·rename_i d f;rw [aY] at h;split at h
   ·cases h
   ·rename_i a;obtain ⟨c,b⟩:=uU l t v h;refine ⟨λx hx=>?_,b⟩;rcases cf.1 hx with rfl | hx
    ·rw [f];intro e;cases e;exact a rfl
    ·exact c x hx
  ·rename_i f;obtain ⟨c,b⟩:=uU l t v h;refine ⟨λx hx=>?_,b⟩;rcases cf.1 hx with rfl | hx
   ·rw [f];intro e;cases e
   ·exact c x hx
theorem JC {α:Type} {E:List Ent} (hE:∀x∈E,fW P x) {n:Nat} {ops:List Oper} {s:St} {k:Ex->St->Option α} {z:α} (h:EY P E n ops s k=some z) (id:Nat):
  SemC P n (.region id ops.toArray true) s λex s'=>k ex s'=some z:=by
 intro ι0 w0 ι a w hI;unfold EY at h;split at h
 case h_2=>cases h
 rename_i hok;simp only [aA,GU] at hok;obtain ⟨⟨hb1,hb2,_⟩,S⟩:=hok;have g:=qf ops ops [] (by simp) (λj i u=>by simp [getN] at u);have hI1:Inv n ι0 w0 ι { s with nb:=s.nb+8*ops.length } a { w with drawn:=w.drawn+1 }:=by
  have d:=hI.drawn (w.drawn+1);exact ⟨d.size,d.defers,d.tmps,⟨d.mem.inj,λb r u=>by have:=d.mem.low b r u;simp only;omega,d.mem.dom,d.mem.blk⟩,d.ext,d.new,d.fr,d.low,d.fz,d.gl⟩
 have M:∀i,Dn (Array.replicate ops.toArray.size false) i=false:=by
  intro i;unfold Dn;simp only [rK,WJ];split<;>rfl
 have hno:∀(l:List Rec) (i:Nat) (D:Nat->Bool) (s:St),(∀j,D j=false)->appD i l D s=s:=by
  intro l
  induction l with
  | nil=>intros;rfl
  | cons r l ih=>intro i D s hD;simp only [appD,hD i,bw,aC];exact ih _ D s hD
 have C:∀(trf:List TE) (x y:Rec) (i j:Nat),pS (kP ops []) (trf.filter λx=>!(x.rd.isEmpty&&x.ws.isEmpty))=true->i<j->((⟨0+i,x.rd,keys x.wr⟩:TE)∈trf\/(x.rd=[]/\x.wr=[]))->((⟨0+j,y.rd,keys y.wr⟩:TE)∈trf\/(y.rd=[]/\y.wr=[]))->
   Must ops i j\/((∀b∈keys x.wr,b∉y.rd/\b∉keys y.wr)/\∀b∈x.rd,b∉keys y.wr):=by
  intro trf x y i j I B hx hy;rcases hx with hxm | ⟨hx1,hx2⟩
  ·rcases hy with hym | ⟨hy1,hy2⟩
   ·simp only [dk] at hxm hym;by_cases Z:(x.rd=[]/\x.wr=[])
    ·exact .inr (by simp [Z.1,Z.2,keys])
    ·by_cases he2:(y.rd=[]/\y.wr=[])
     ·exact .inr (by simp [he2.1,he2.2,keys])
     ·have m1:(⟨i,x.rd,keys x.wr⟩:TE)∈trf.filter λx=>!(x.rd.isEmpty&&x.ws.isEmpty):=by
       refine lz.2 ⟨hxm,?_⟩;simp only [keys,kQ,ES,HV];rcases HY (x.rd=[]) with h | h
       ·exact .inr (by simpa using λhw=>Z ⟨h,hw⟩)
       ·exact .inl h
      have m2:(⟨j,y.rd,keys y.wr⟩:TE)∈trf.filter λx=>!(x.rd.isEmpty&&x.ws.isEmpty):=by
       refine lz.2 ⟨hym,?_⟩;simp only [keys,kQ,ES,HV];rcases HY (y.rd=[]) with h | h
       ·exact .inr (by simpa using λhw=>he2 ⟨h,hw⟩)
       ·exact .inl h
      have:=ER (qX I _ m1 _ m2 B) B;exact this.imp (g j i) λh=>h
   ·exact .inr (by simp [hy1,hy2,keys])
  ·exact .inr (by simp [hx1,hx2,keys])
 rcases Au hE ops 0 _ [] (by simp) h with ⟨recs,O,trf,g1,R,Q,_,X,g6⟩ | ⟨p,po,recs,O,sp,trf,v,wr,rp,g1,g0,gr,gd,gw,rfl,R,Q,_,g7,X,g6⟩
 ·split at R
  case h_2=>cases R
  rename_i I;have F:DrawFacts P n s.nb ops recs { s with nb:=s.nb+8*ops.length } (λ_=>True):=by
   refine ⟨g1,rfl,λj o r N W=>?_,λj o e N he u=>?_,λi j x y B hx hy=>?_,λi j x y B hx hy=>?_⟩
   ·obtain ⟨p1,p2⟩:=g6 j o r N W;simp only [dk] at p2;have e:=rJ recs 0 j { s with nb:=s.nb+8*ops.length };simp only [dk] at e;exact ⟨λt ht=>p1▸ht,λ_=>p2.eqv e⟩
   ·have:=jM ops 0 hb1 j o e N he u;omega
   ·have:=nc (masks:=kP ops []) ops [] hb2 i j x y (by simpa using B) (by simpa using hx) hy;simp only [bH,dk] at this;exact this.imp (g j i) λh=>h
   ·exact C trf x y i j I B (X i x hx) (X j y hy)
  refine wp_region_any S (D2 (kk:=0) F (λ_ _ _=>trivial) (λJ a' w' f=>⟨.normal,O,J,rfl,f.eqv Q.symm,R⟩) _ _ ι a _ (by simp) (λj Y=>by omega) (λj o e _ K=>by rw [M j] at K;cases K) (by rw [hno recs 0 _ _ M];exact hI1) (λi _ _ b u _=>?_) ?_)
  ·exact hI.fresh b (by omega)
  ·have:=A3 (λi=>!Dn (Array.replicate ops.toArray.size false) i) (List.range ops.length);simpa using this
 ·split at R
  case h_2=>cases R
  rename_i hpk;simp only [aA,Xo] at hpk;obtain ⟨hw,I⟩:=hpk;simp only [dk] at R g7 hw;have B:p<ops.length:=by
   rcases aH p ops.length with h' | h'
   ·exact h'
   ·rw [gU h'] at g0;cases g0
  have A:∀i r,recs[i]?=some r->i≠p->(i<p/\Must ops i p)\/r.wr=[]:=by
   intro i r W G;rcases X i r W G with hx | hx
   ·have:=(cv.1 hw) _ hx;simp only [dk,g9,aA] at this;rcases this with h | h
    ·right;simpa [keys] using h
    ·exact .inl ⟨aL h.1,g p i h.2⟩
   ·exact .inr hx.2
  have g5':∀(j:Nat) (r:Rec),recs[j]?=some r->j≠p->(⟨0+j,r.rd,keys r.wr⟩:TE)∈trf\/(r.rd=[]/\r.wr=[]):=X;have F:DrawFacts P n s.nb ops recs { s with nb:=s.nb+8*ops.length } (λj=>j<p\/(p<j/\(getN (kP ops []) (0+j)).testBit (0+p)=false)):=by
   refine ⟨g1,rfl,λj o r N W=>?_,λj o e N he u=>?_,λi j x y U hx hy=>?_,λi j x y U hx hy=>?_⟩
   ·obtain ⟨p1,p2⟩:=g6 j o r N W;have e:=rJ recs 0 j { s with nb:=s.nb+8*ops.length };simp only [dk] at e p2 ⊢;exact ⟨λt ht=>p1▸ht,λhc=>(p2 hc).eqv e⟩
   ·have:=jM ops 0 hb1 j o e N he u;omega
   ·have:=nc (masks:=kP ops []) ops [] hb2 i j x y (by simpa using U) (by simpa using hx) hy;simp only [bH,dk] at this;exact this.imp (g j i) λh=>h
   ·by_cases G:i=p
    ·
     subst G;rw [gr] at hx;cases hx;rcases A j y hy (by omega) with ⟨h,_⟩ | h
     ·omega
     ·exact .inr (by simp [gw,h,keys])
    ·by_cases L:j=p
     ·subst L;rw [gr] at hy;cases hy;rcases A i x hx G with ⟨_,h⟩ | h
      ·exact .inl h
      ·exact .inr (by simp [gw,h,keys])
     ·exact C trf x y i j I U (X i x hx G) (X j y hy L)
  have c:Eqv ((recs.take p).foldl St.put { s with nb:=s.nb+8*ops.length }) (appD 0 recs (λm=>decide (m<p)) { s with nb:=s.nb+8*ops.length }):=by
   have e:=rJ recs 0 p { s with nb:=s.nb+8*ops.length };simpa using e
  have V:∀j,j<ops.length->j≠p->(j<p\/(p<j/\(getN (kP ops []) (0+j)).testBit (0+p)=false))\/Must ops p j:=by
   intro j _ hne;cases u:(getN (kP ops []) (0+j)).testBit (0+p) with
   | false=>exact .inl ((Nat.lt_or_gt_of_ne hne).imp (λh=>h) λh=>⟨h,rfl⟩)
   | true=>simp only [dk] at u;exact .inr (g j p u)
  refine wp_region_any S (OY F g0 gr (g7.eqv c) V (λD hD hd hn J x a' w' hv f=>⟨.pan v,_,J,⟨x,rfl,hv⟩,?inv,R⟩) _ _ ι a _ (by simp) (λj o e _ K=>by rw [M j] at K;cases K) (M p) (by rw [hno _ 0 _ _ M];exact hI1) (λi _ _ b u _=>?fresh) ?len)
  case inv=>
   have hH:∀b,look O.H b=look (appD 0 recs D { s with nb:=s.nb+8*ops.length }).H b:=by
    intro b;rw [Q.H,c.H,xf,xf];refine pM _ 0 _ _ b _ λj r Y u=>?_;simp only [dk];by_cases L:j=p
    ·subst L;rw [gr] at Y;cases Y;rw [gw] at u;simp [keys] at u
    ·rcases A j r Y L with ⟨d,hm⟩ | hm
     ·rw [hm.in hD g0 hd (by omega)];simp [d]
     ·rw [hm] at u;simp [keys] at u
   have hT:∀t v,look (Jd ops s.T) t=some (some v)->look (appD 0 recs D { s with nb:=s.nb+8*ops.length }).T t=some (some v):=by
    intro t v ht;obtain ⟨d,h2⟩:=uU ops t v ht;rw [Ac,Ai _ 0 D t _ λj r Y W=>?_]
    ·exact h2
    ·exfalso;obtain ⟨o,N⟩:=xZ F Y;exact d o (fS N) ((F.loc j o r N Y).1 t W)
   refine ⟨f.size,f.defers,λt v ht=>f.tmps t v (hT t v ht),⟨f.mem.inj,λb r u=>?_,f.mem.dom,λb blk hl hdd=>f.mem.blk b blk ?_ hdd⟩,?_,f.new,?_,λb r u=>?_,?_,?_⟩
   ·have:=f.mem.low b r u;have e:=Q.nb.trans c.nb;rw [lQ] at e;show b<O.nb;rw [e];exact this
   ·show look (wr++(appD 0 recs D { s with nb:=s.nb+8*ops.length }).H) b=_;rw [pW,<-hH b,<-pW];exact hl
   ·have e:=Q.rb.trans c.rb;rw [yh] at e;have d:=f.ext;show ∀b q,ι0 b=some q->J b=some q\/O.rb<=b;rw [e];simp only [St.app,yh] at d;exact d
   ·have e:=Q.ro.trans c.ro;rw [jp] at e;have d:=f.fr;show Fr (roI ι0 O.ro) w0.w w';rw [e];simp only [St.app,jp] at d;exact d
   ·have e:=Q.lo.trans c.lo;rw [yg] at e;have d:=f.low b r u;show b<O.lo;rw [e];simp only [St.app,yg] at d;exact d
   ·have e:=Q.ro.trans c.ro;rw [jp] at e;have d:=f.fz;show ∀b q,J b=some (some q)->q.fz=true->b<O.ro;rw [e];simp only [St.app,jp] at d;exact d
   ·have e:=Q.ro.trans c.ro;rw [jp] at e;have d:=f.gl;show GL (roI ι0 O.ro) w0.w;rw [e];simp only [St.app,jp] at d;exact d
  case fresh=>exact hI.fresh b (by omega)
  case len=>
   have:=A3 (λi=>!Dn (Array.replicate ops.toArray.size false) i) (List.range ops.length);simpa using this
end Go.Abs
