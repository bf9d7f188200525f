
/- A region that draws its order: where what is unordered does not meet, every order comes to what the order of the text comes to.
   Conditions: none; generic over the program. -/
import Derived.Test.YthemneooekobkabGreatDoorAbsM
set_option linter.unusedSimpArgs false
set_option linter.unusedVariables false
namespace Go.Abs
variable {P:Program}
structure Rec where
 dst:Option Nat
 val:Option V
 wr:List (Nat×Blk)
 rd:List Nat
def St.put (s:St) (r:Rec):St:=s.app r.dst r.val r.wr s.nb
def keys (wr:List (Nat×Blk)):List Nat:=wr.map (·.1)
theorem qp {α:Type} (l m:List (Nat×α)) (n:Nat):look (l++m) n=(look l n).or (look m n):=by
 induction l with
 | nil=>rfl
 | cons x l ih=>
  obtain ⟨k,v⟩:=x;rw [eU,aS,aS];split
  ·rfl
  ·exact ih
theorem qU {α:Type} {l:List (Nat×α)} {n:Nat} (h:n∉l.map (·.1)):look l n=none:=by
 induction l with
 | nil=>rfl
 | cons x l ih=>
  obtain ⟨k,v⟩:=x;simp only [ga,dr,not_or] at h;rw [aS,ab (λe=>h.1 e.symm)];exact ih h.2
theorem rO {α:Type} {l:List (Nat×α)} {n:Nat} (h:n∈l.map (·.1)):∃v,look l n=some v:=by
 induction l with
 | nil=>simp at h
 | cons x l ih=>
  obtain ⟨k,v⟩:=x;rw [aS];split
  ·exact ⟨v,rfl⟩
  ·rename_i a;simp only [ga,dr] at h;exact ih (h.resolve_left λe=>a e.symm)
theorem P2 (s:St) (r:Rec) (t:Nat):look (s.put r).T t=if r.dst=some t then some r.val else look s.T t:=by
 unfold St.put St.app;cases a:r.dst with
 | none=>simp
 | some d=>
  simp only [aS];by_cases h:d=t
  ·subst h;simp
  ·simp [h]
theorem OV (s:St) (r:Rec) (b:Nat):look (s.put r).H b=(look r.wr b).or (look s.H b):=qp _ _ _
theorem Vl (s:St) (r:Rec):(s.put r).nb=s.nb:=rfl
structure Eqv (s s':St):Prop where
 T:∀t,look s.T t=look s'.T t
 H:∀b,look s.H b=look s'.H b
 nb:s.nb=s'.nb
 lo:s.lo=s'.lo
 ro:s.ro=s'.ro
 rb:s.rb=s'.rb
theorem Eqv.refl (s:St):Eqv s s:=⟨λ_=>rfl,λ_=>rfl,rfl,rfl,rfl,rfl⟩
theorem Eqv.symm {s s':St} (h:Eqv s s'):Eqv s' s:=⟨λt=>(h.T t).symm,λb=>(h.H b).symm,h.nb.symm,h.lo.symm,h.ro.symm,h.rb.symm⟩
theorem Eqv.trans {a b c:St} (h:Eqv a b) (k:Eqv b c):Eqv a c:=⟨λt=>(h.T t).trans (k.T t),λt=>(h.H t).trans (k.H t),h.nb.trans k.nb,h.lo.trans k.lo,h.ro.trans k.ro,h.rb.trans k.rb⟩
theorem Eqv.put {s s':St} (h:Eqv s s') (r:Rec):Eqv (s.put r) (s'.put r):=
 ⟨λt=>by rw [P2,P2,h.T],λb=>by rw [OV,OV,h.H],h.nb,h.lo,h.ro,h.rb⟩
theorem Eqv.puts:∀(l:List Rec) {s s':St},Eqv s s'->Eqv (l.foldl St.put s) (l.foldl St.put s')
 | [],_,_,h=>h
 | r::l,_,_,h=>Eqv.puts l (h.put r)
theorem Inv.eqv {n:Nat} {ι0 ι:Inj} {w0:Base} {s s':St} {a:Act} {w:World} (h:Inv n ι0 w0 ι s a w) (e:Eqv s s'):Inv n ι0 w0 ι s' a w:=
 ⟨h.size,h.defers,λt v F=>h.tmps t v (by rw [e.T];exact F),⟨h.mem.inj,λb r C=>by rw [<-e.nb];exact h.mem.low b r C,h.mem.dom,λb blk E G=>h.mem.blk b blk (by rw [e.H];exact E) G⟩,by rw [<-e.rb];exact h.ext,h.new,by rw [<-e.ro];exact h.fr,λb r C=>by rw [<-e.lo];exact h.low b r C,by rw [<-e.ro];exact h.fz,by rw [<-e.ro];exact h.gl⟩
def appD:Nat->List Rec->(Nat->Bool)->St->St
 | _,[],_,s=>s
 | i,r::l,D,s=>appD (i+1) l D (if D i=true then s.put r else s)
def ww:Nat->List Rec->(Nat->Bool)->Nat->Option (Option V)->Option (Option V)
 | _,[],_,_,x=>x
 | i,r::l,D,t,x=>ww (i+1) l D t (if D i=true/\r.dst=some t then some r.val else x)
def xW:Nat->List Rec->(Nat->Bool)->Nat->Option Blk->Option Blk
 | _,[],_,_,x=>x
 | i,r::l,D,b,x=>xW (i+1) l D b (if D i=true then (look r.wr b).or x else x)
theorem ze:∀(l:List Rec) (i:Nat) (D:Nat->Bool) (s:St) (t:Nat),look (appD i l D s).T t=ww i l D t (look s.T t)
 | [],_,_,_,_=>rfl
 | r::l,i,D,s,t=>by
  simp only [appD,ww,ze l];congr 1;cases D i
  ·simp
  ·simp only [jT,aJ];rw [P2]
theorem yk:∀(l:List Rec) (i:Nat) (D:Nat->Bool) (s:St) (b:Nat),look (appD i l D s).H b=xW i l D b (look s.H b)
 | [],_,_,_,_=>rfl
 | r::l,i,D,s,b=>by
  simp only [appD,xW,yk l];congr 1;cases D i
  ·simp
  ·simp only [aJ];rw [OV]
theorem me:∀(l:List Rec) (i:Nat) (D:Nat->Bool) (s:St),(appD i l D s).nb=s.nb
 | [],_,_,_=>rfl
 | r::l,i,D,s=>by
  simp only [appD,me l];split<;>rfl
theorem jB:∀(l:List Rec) (i:Nat) (D:Nat->Bool) (s:St),(appD i l D s).ro=s.ro
 | [],_,_,_=>rfl
 | r::l,i,D,s=>by
  simp only [appD,jB l];split<;>rfl
theorem yn:∀(l:List Rec) (i:Nat) (D:Nat->Bool) (s:St),(appD i l D s).lo=s.lo
 | [],_,_,_=>rfl
 | r::l,i,D,s=>by
  simp only [appD,yn l];split<;>rfl
theorem xL:∀(l:List Rec) (i:Nat) (D:Nat->Bool) (s:St),(appD i l D s).rb=s.rb
 | [],_,_,_=>rfl
 | r::l,i,D,s=>by
  simp only [appD,xL l];split<;>rfl
theorem tt:∀(l:List Rec) (i:Nat) (D a:Nat->Bool) (t:Nat) (x:Option (Option V)),(∀j r,l[j]?=some r->r.dst=some t->D (i+j)=a (i+j))->ww i l D t x=ww i l a t x
 | [],_,_,_,_,_,_=>rfl
 | r::l,i,D,a,t,x,h=>by
  simp only [ww];have c:=h 0 r (by simp);simp only [cS] at c;rw [tt l (i+1) D a t _ λj f d e=>by have:=h (j+1) f (by simpa using d) e;rwa [show i+(j+1)=i+1+j by omega] at this];congr 1;by_cases b:r.dst=some t
  ·rw [c b]
  ·simp [b]
theorem zD (l:List Rec) (i:Nat) (D:Nat->Bool) (t:Nat) (x:Option (Option V)) (h:∀j r,l[j]?=some r->r.dst=some t->D (i+j)=false):ww i l D t x=x:=by
 induction l generalizing i x with
 | nil=>rfl
 | cons r l ih=>
  simp only [ww];have b:=h 0 r (by simp);simp only [cS] at b;have:¬(D i=true/\r.dst=some t):=λ⟨a,d⟩=>by rw [b d] at a;cases a
  rw [ab this];exact ih (i+1) x λj f c e=>by have:=h (j+1) f (by simpa using c) e;rwa [show i+(j+1)=i+1+j by omega] at this
theorem HU:∀(l:List Rec) (i j:Nat) (D:Nat->Bool) (t:Nat) (x:Option (Option V)) (r:Rec),l[j]?=some r->D (i+j)=true->r.dst=some t->
  (∀k b,j<k->l[k]?=some b->b.dst=some t->D (i+k)=false)->ww i l D t x=some r.val
 | [],_,_,_,_,_,_,h,_,_,_=>by simp at h
 | r0::l,i,0,D,t,x,r,h,e,d,a=>by
  simp only [my,au] at h;subst h;simp only [cS] at e;simp only [ww];rw [ae ⟨e,d⟩];exact zD l (i+1) D t _ λk b f c=>by have:=a (k+1) b (by omega) (by simpa using f) c;rwa [show i+(k+1)=i+1+k by omega] at this
 | r0::l,i,j+1,D,t,x,r,h,e,d,a=>by
  simp only [ww]
  exact HU l (i+1) j D t _ r (by simpa using h) (by rwa [show i+1+j=i+(j+1) by omega]) d λk b f g c=>by
   have:=a (k+1) b (by omega) (by simpa using g) c;rwa [show i+(k+1)=i+1+k by omega] at this
theorem qk:∀(l:List Rec) (i:Nat) (D a:Nat->Bool) (b:Nat) (x:Option Blk),(∀j r,l[j]?=some r->b∈keys r.wr->D (i+j)=a (i+j))->xW i l D b x=xW i l a b x
 | [],_,_,_,_,_,_=>rfl
 | r::l,i,D,a,b,x,h=>by
  simp only [xW];have d:=h 0 r (by simp);simp only [cS] at d;rw [qk l (i+1) D a b _ λj g e f=>by have:=h (j+1) g (by simpa using e) f;rwa [show i+(j+1)=i+1+j by omega] at this];congr 1;by_cases c:b∈keys r.wr
  ·rw [d c]
  ·simp [qU c]
theorem I9 (l:List Rec) (i:Nat) (D:Nat->Bool) (b:Nat) (x:Option Blk) (h:∀j r,l[j]?=some r->b∈keys r.wr->D (i+j)=false):xW i l D b x=x:=by
 induction l generalizing i x with
 | nil=>rfl
 | cons r l ih=>
  simp only [xW];have c:=h 0 r (by simp);simp only [cS] at c;have:(if D i=true then (look r.wr b).or x else x)=x:=by
   by_cases a:b∈keys r.wr
   ·rw [c a];simp
   ·rw [qU a];simp
  rw [this];exact ih (i+1) x λj f d e=>by have:=h (j+1) f (by simpa using d) e;rwa [show i+(j+1)=i+1+j by omega] at this
theorem Hv:∀(l:List Rec) (i j:Nat) (D:Nat->Bool) (b:Nat) (x:Option Blk) (r:Rec),l[j]?=some r->D (i+j)=true->b∈keys r.wr->
  (∀k c,j<k->l[k]?=some c->b∈keys c.wr->D (i+k)=false)->xW i l D b x=look r.wr b
 | [],_,_,_,_,_,_,h,_,_,_=>by simp at h
 | r0::l,i,0,D,b,x,r,h,f,e,a=>by
  simp only [my,au] at h;subst h;simp only [cS] at f;simp only [xW];obtain ⟨v,m⟩:=rO e;rw [ae f,m];exact I9 l (i+1) D b _ λk c g d=>by have:=a (k+1) c (by omega) (by simpa using g) d;rwa [show i+(k+1)=i+1+k by omega] at this
 | r0::l,i,j+1,D,b,x,r,h,f,e,a=>by
  simp only [xW]
  exact Hv l (i+1) j D b _ r (by simpa using h) (by rwa [show i+1+j=i+(j+1) by omega]) e λk c g n d=>by
   have:=a (k+1) c (by omega) (by simpa using n) d;rwa [show i+(k+1)=i+1+k by omega] at this
theorem rz:∀(l:List Rec) (i j:Nat) (s:St),Eqv ((l.take j).foldl St.put s) (appD i l (λm=>decide (m<i+j)) s)
 | [],i,j,s=>by simp [appD];exact Eqv.refl s
 | r::l,i,0,s=>by
  have:∀(l:List Rec) (i a:Nat) (s:St),i<=a->appD a l (λm=>decide (m<i)) s=s:=by
   intro l
   induction l with
   | nil=>intros;rfl
   | cons r l ih=>intro i a s h;simp only [appD,show ¬a<i by omega,n7,br,aB];exact ih i (a+1) s (by omega)
  simp only [lX,Ii,cS];rw [this (r::l) i i s (aW _)];exact Eqv.refl s
 | r::l,i,j+1,s=>by
  simp only [n6,vG,appD,show i<i+(j+1) by omega,oC,aJ];have:=rz l (i+1) j (s.put r);rwa [show (λm=>decide (m<i+1+j))=λm=>decide (m<i+(j+1)) by funext m;simp only [nY];omega] at this
theorem BO:∀(l:List Rec) (i:Nat) (D:Nat->Bool) (s:St),(∀j,j<l.length->D (i+j)=true)->appD i l D s=l.foldl St.put s
 | [],_,_,_,_=>rfl
 | r::l,i,D,s,h=>by
  have a:=h 0 (by simp);simp only [cS] at a;simp only [appD,a,aJ,vG];exact BO l (i+1) D _ λj b=>by have:=h (j+1) (by simpa using b);rwa [show i+(j+1)=i+1+j by omega] at this
def vb (P:Program) (n nb0:Nat) (ops:List Oper) (i:Nat) (o:Oper) (r:Rec) (base:St):Prop:=
 ∀s':St,(∀t∈o.looksAt ops.toArray,look s'.T t=look base.T t)->(∀b∈r.rd,look s'.H b=look base.H b)->s'.nb=base.nb->s'.ro=base.ro->
  ∀(ι0:Inj) (w0:Base) (ι:Inj) (a:Act) (w:World),Inv n ι0 w0 ι s' a w->(∀b,nb0+8*i<=b->b<nb0+8*i+8->ι b=none)->∀(K:Act->World->Prop) (Q:Exit->Act->World->Prop),
   (∀c d w',(∀b,(b<nb0+8*i\/nb0+8*i+8<=b)->c b=ι b)->Inv n ι0 w0 c (s'.put r) d w'->K d w')->
   if Region.wanted o (yielded ops.toArray a.tmps) then o.wp P a w K Q else K (a.put o.dst undef) w
def y7 (P:Program) (n nb0:Nat) (ops:List Oper) (i:Nat) (o:Oper) (v:V) (wr:List (Nat×Blk)) (rd:List Nat) (base:St):Prop:=
 ∀s':St,(∀t∈o.looksAt ops.toArray,look s'.T t=look base.T t)->(∀b∈rd,look s'.H b=look base.H b)->s'.nb=base.nb->s'.ro=base.ro->
  ∀(ι0:Inj) (w0:Base) (ι:Inj) (a:Act) (w:World),Inv n ι0 w0 ι s' a w->(∀b,nb0+8*i<=b->b<nb0+8*i+8->ι b=none)->∀(K:Act->World->Prop) (Q:Exit->Act->World->Prop),
   (∀c x w',VR c v x->Inv n ι0 w0 c (s'.app none none wr s'.nb) a w'->Q (.panic [{ v:=x,recovered:=false }]) a w')->
   Region.wanted o (yielded ops.toArray a.tmps)=true/\o.wp P a w K Q
theorem y7.eqv {n nb0:Nat} {ops:List Oper} {i:Nat} {o:Oper} {v:V} {wr:List (Nat×Blk)} {rd:List Nat} {base C:St} (h:y7 P n nb0 ops i o v wr rd base) (e:Eqv base C):y7 P n nb0 ops i o v wr rd C:=
 λs' O G J Q=>h s' (λt E=>by rw [O t E,e.T]) (λb F=>by rw [G b F,e.H]) (by rw [J,e.nb]) (by rw [Q,e.ro])
theorem vb.eqv {n nb0:Nat} {ops:List Oper} {i:Nat} {o:Oper} {r:Rec} {base C:St} (h:vb P n nb0 ops i o r base) (e:Eqv base C):vb P n nb0 ops i o r C:=
 λs' O G J Q=>h s' (λt E=>by rw [O t E,e.T]) (λb F=>by rw [G b F,e.H]) (by rw [J,e.nb]) (by rw [Q,e.ro])
theorem zX {α:Type} {ops:List Oper} {o:Oper} {s:St} {k:Bool->St->Option α} {z:α} (h:wX ops o s k=some z):
  ∃c r,k c r=some z/\Eqv r s/\∀s':St,(∀t∈o.looksAt ops.toArray,look s'.T t=look s.T t)->∀(n:Nat) (ι0 ι:Inj) (w0:Base) (a:Act) (w:World),Inv n ι0 w0 ι s' a w->
   Region.wanted o (yielded ops.toArray a.tmps)=c:=by
 unfold wX at h;split at h
 ·rename_i l;exact ⟨true,s,h,Eqv.refl s,λ_ _ _ _ _ _ _ _ _=>by simp [Region.wanted,l]⟩
 ·rename_i j c l;split at h
  case h_2=>cases h
  rename_i d i;have f:d∈o.looksAt ops.toArray:=by
   unfold Oper.looksAt;unfold gtmp at i;split at i
   ·rename_i v q;simp [l,q,i]
   ·cases i
  have again:∀x,look s.T d=some (some (.b x))->Eqv { s with T:=(d,some (V.b x))::s.T } s:=by
   intro x hx;refine ⟨λt=>?_,λ_=>rfl,rfl,rfl,rfl,rfl⟩;show look ((d,some (V.b x))::s.T) t=look s.T t;rw [aS];split
   ·rename_i e;subst e;exact hx.symm
   ·rfl
  split at h
  ·rename_i x hx;cases x
   ·refine ⟨!c,_,h,again _ hx,λs' hs n ι0 ι w0 a w p=>?_⟩;obtain ⟨y,m,g⟩:=p.tmps d _ (by rw [hs d f];exact hx);simp only [VR] at g;subst g;have hy:=rV i a.tmps;rw [m] at hy;cases c<;>simp [Region.wanted,l,hy]
   ·refine ⟨c,_,h,again _ hx,λs' hs n ι0 ι w0 a w p=>?_⟩;obtain ⟨y,m,g⟩:=p.tmps d _ (by rw [hs d f];exact hx);simp only [VR] at g;subst g;have hy:=rV i a.tmps;rw [m] at hy;cases c<;>simp [Region.wanted,l,hy]
  ·rename_i hx;refine ⟨false,s,h,Eqv.refl s,λs' hs n ι0 ι w0 a w p=>?_⟩;obtain ⟨y,m,g⟩:=p.tmps d _ (by rw [hs d f];exact hx);simp only [VR] at g;obtain ⟨u,rfl,_⟩:=g;have hy:=rV i a.tmps;rw [m] at hy;simp [Region.wanted,l,hy]
  ·cases h
theorem xH {ops:Array Oper} {o:Oper} {s s':St} (h:∀t∈o.looksAt ops,look s'.T t=look s.T t):∀x∈o.op.operands.toList,opd s'.T x=opd s.T x:=by
 intro x hx;cases x with
 | tmp t=>
  have:=h t (by
   unfold Oper.looksAt;simp only [oq,List.mem_filterMap];exact .inl ⟨.tmp t,hx,rfl⟩)
  simp only [opd,this]
 | _=>rfl
theorem JP {α:Type} {E:List Ent} (X:∀x∈E,fH P x) {n nb0:Nat} {ops:List Oper} {masks:List Nat} {p:Nat} {k:List TE->Option α} {z:α}:∀(l:List Oper) (i:Nat) (s:St) (tr:List TE),
  nb0+8*(i+l.length)<=s.nb->runB P E n nb0 ops masks p i l s tr k=some z->
  ∃(recs:List Rec) (trf:List TE),recs.length=l.length/\k trf=some z/\(∀x∈tr,x∈trf)/\
   (∀j r,recs[j]?=some r->(⟨i+j,r.rd,keys r.wr⟩:TE)∈trf\/(r.rd=[]/\r.wr=[]))/\
   ∀(j:Nat) (o:Oper) (r:Rec),l[j]?=some o->recs[j]?=some r->r.dst=o.dst/\((getN masks (i+j)).testBit p=false->vb P n nb0 ops (i+j) o r ((recs.take j).foldl St.put s))
 | [],i,s,tr,C,h=>⟨[],tr,rfl,h,λ_ h=>h,λj r h=>by simp at h,λj o r h=>by simp at h⟩
 | o::l,i,s,tr,C,h=>by
  simp only [az] at C;simp only [runB] at h;have more:∀(e:Rec) (d:List TE) (I:St),e.dst=o.dst->((getN masks i).testBit p=false->vb P n nb0 ops i o e s)->Eqv I (s.put e)->s.nb<=I.nb->(∀x∈tr,x∈d)->((⟨i,e.rd,keys e.wr⟩:TE)∈d\/(e.rd=[]/\e.wr=[]))->
    runB P E n nb0 ops masks p (i+1) l I d k=some z->∃(recs:List Rec) (trf:List TE),recs.length=(o::l).length/\k trf=some z/\(∀x∈tr,x∈trf)/\
   (∀j r,recs[j]?=some r->(⟨i+j,r.rd,keys r.wr⟩:TE)∈trf\/(r.rd=[]/\r.wr=[]))/\
   ∀(j:Nat) (G:Oper) (r:Rec),(o::l)[j]?=some G->recs[j]?=some r->r.dst=G.dst/\((getN masks (i+j)).testBit p=false->vb P n nb0 ops (i+j) G r ((recs.take j).foldl St.put s)):=by
   intro e d I N hl e2 W L R h;obtain ⟨recs,trf,g1,g2,Y,g5,g6⟩:=JP X l (i+1) I d (by omega) h;refine ⟨e::recs,trf,by simp [g1],g2,λx hx=>Y x (L x hx),λj r m=>?_,λj G r O m=>?_⟩
   ·cases j with
    | zero=>simp only [my,au] at m;subst m;exact R.imp (Y _) id
    | succ j=>have:=g5 j r (by simpa using m);rwa [show i+1+j=i+(j+1) by omega] at this
   ·cases j with
    | zero=>
     simp only [my,au] at O m;subst O m;exact ⟨N,hl⟩
    | succ j=>
     obtain ⟨p1,V⟩:=g6 j G r (by simpa using O) (by simpa using m);rw [show i+1+j=i+(j+1) by omega] at V;exact ⟨p1,λu=>(V u).eqv (by simpa using Eqv.puts (recs.take j) e2)⟩
  split at h
  ·rename_i y;exact more ⟨o.dst,none,[],[]⟩ tr (s.app o.dst none [] s.nb) rfl (λu=>by rw [y] at u;cases u) (Eqv.refl _) (aW _) (λ_ h=>h) (.inr ⟨rfl,rfl⟩) h
  obtain ⟨D,B,h,q,hw⟩:=zX h;have c:B.nb=s.nb:=q.nb;cases D
  ·simp only at h;split at h
   case h_2=>cases h
   rename_i N;refine more ⟨o.dst,some (.tp []),[],[]⟩ tr (B.app o.dst (some (.tp [])) [] B.nb) rfl (λ_ s' J q2 Z q4 ι0 w0 ι a w A F K Q M=>?_) (q.put ⟨o.dst,some (.tp []),[],[]⟩) (xR c.symm) (λ_ h=>h) (.inr ⟨rfl,rfl⟩) h;rw [hw s' J n ι0 ι w0 a w A];simp only [br,aB];exact M ι _ _ (λ_ _=>rfl) (A.skip N)
  ·simp only at h;rcases CM X (by omega) h with ⟨val,wr,rd,g,S,f⟩ | ⟨v,wr,rd,S,f⟩
   ·refine more ⟨o.dst,val,wr,rd⟩ (⟨i,rd,keys wr⟩::tr) (B.app o.dst val wr B.nb) rfl (λ_ s' J q2 Z q4 ι0 w0 ι a w A F K Q M=>?_) (q.put ⟨o.dst,val,wr,rd⟩) (xR c.symm) (λx hx=>fN _ hx) (.inl (by simp [keys])) S;rw [hw s' J n ι0 ι w0 a w A];simp only [aJ];refine f s' (xH λt ht=>by rw [J t ht,q.T]) (λb u=>by rw [q2 b u,q.H]) (by rw [Z,c]) (by rw [q4,q.ro]) ι0 w0 ι a w A (by simpa using F) K Q λU a' w' z1 z2=>M U a' w' (by simpa using z1) z2
   ·cases S
theorem BM {α:Type} {E:List Ent} (hE:∀x∈E,fH P x) {n nb0:Nat} {ops:List Oper} {masks:List Nat} {k:St->List TE->Option α} {kp:Nat->V->St->List TE->Option α} {z:α}:∀(l:List Oper) (i:Nat) (s:St) (tr:List TE),
  nb0+8*(i+l.length)<=s.nb->runD P E n nb0 ops masks kp i l s tr k=some z->
  (∃(recs:List Rec) (d:St) (trf:List TE),recs.length=l.length/\k d trf=some z/\Eqv d (recs.foldl St.put s)/\(∀x∈tr,x∈trf)/\
   (∀j r,recs[j]?=some r->(⟨i+j,r.rd,keys r.wr⟩:TE)∈trf\/(r.rd=[]/\r.wr=[]))/\
   ∀(j:Nat) (o:Oper) (r:Rec),l[j]?=some o->recs[j]?=some r->r.dst=o.dst/\vb P n nb0 ops (i+j) o r ((recs.take j).foldl St.put s))\/
  (∃(p:Nat) (op:Oper) (recs:List Rec) (d:St) (M:St) (trf:List TE) (v:V) (wr:List (Nat×Blk)) (A:Rec),recs.length=l.length/\l[p]?=some op/\recs[p]?=some A/\A.dst=op.dst/\A.wr=[]/\M=d.app none none wr d.nb/\kp (i+p) v M trf=some z/\Eqv d ((recs.take p).foldl St.put s)/\(∀x∈tr,x∈trf)/\
   y7 P n nb0 ops (i+p) op v wr A.rd ((recs.take p).foldl St.put s)/\
   (∀j r,recs[j]?=some r->j≠p->(⟨i+j,r.rd,keys r.wr⟩:TE)∈trf\/(r.rd=[]/\r.wr=[]))/\
   ∀(j:Nat) (o:Oper) (r:Rec),l[j]?=some o->recs[j]?=some r->r.dst=o.dst/\((j<p\/(p<j/\(getN masks (i+j)).testBit (i+p)=false))->vb P n nb0 ops (i+j) o r ((recs.take j).foldl St.put s)))
 | [],i,s,tr,S,h=>.inl ⟨[],s,tr,rfl,h,Eqv.refl s,λ_ h=>h,λj r h=>by simp at h,λj o r h=>by simp at h⟩
 | o::l,i,s,tr,S,h=>by
  simp only [az] at S;simp only [runD] at h;obtain ⟨W,I,h,m,hw⟩:=zX h;have e:I.nb=s.nb:=m.nb;have more:∀(B:Rec) (u:List TE) (s2:St),B.dst=o.dst->vb P n nb0 ops i o B s->Eqv s2 (s.put B)->s.nb<=s2.nb->(∀x∈tr,x∈u)->((⟨i,B.rd,keys B.wr⟩:TE)∈u\/(B.rd=[]/\B.wr=[]))->
    runD P E n nb0 ops masks kp (i+1) l s2 u k=some z->
    (∃(recs:List Rec) (d:St) (trf:List TE),recs.length=(o::l).length/\k d trf=some z/\Eqv d (recs.foldl St.put s)/\(∀x∈tr,x∈trf)/\
   (∀j r,recs[j]?=some r->(⟨i+j,r.rd,keys r.wr⟩:TE)∈trf\/(r.rd=[]/\r.wr=[]))/\
   ∀(j:Nat) (f:Oper) (r:Rec),(o::l)[j]?=some f->recs[j]?=some r->r.dst=f.dst/\vb P n nb0 ops (i+j) f r ((recs.take j).foldl St.put s))\/
    (∃(p:Nat) (op:Oper) (recs:List Rec) (d:St) (M:St) (trf:List TE) (v:V) (wr:List (Nat×Blk)) (A:Rec),recs.length=(o::l).length/\(o::l)[p]?=some op/\recs[p]?=some A/\A.dst=op.dst/\A.wr=[]/\M=d.app none none wr d.nb/\kp (i+p) v M trf=some z/\Eqv d ((recs.take p).foldl St.put s)/\(∀x∈tr,x∈trf)/\
   y7 P n nb0 ops (i+p) op v wr A.rd ((recs.take p).foldl St.put s)/\
   (∀j r,recs[j]?=some r->j≠p->(⟨i+j,r.rd,keys r.wr⟩:TE)∈trf\/(r.rd=[]/\r.wr=[]))/\
   ∀(j:Nat) (f:Oper) (r:Rec),(o::l)[j]?=some f->recs[j]?=some r->r.dst=f.dst/\((j<p\/(p<j/\(getN masks (i+j)).testBit (i+p)=false))->vb P n nb0 ops (i+j) f r ((recs.take j).foldl St.put s))):=by
   intro B u s2 hd hl J hnb2 O hte h;rcases BM hE l (i+1) s2 u (by omega) h with ⟨recs,d,trf,g1,N,g3,L,R,g6⟩ | ⟨p,op,recs,d,M,trf,v,wr,A,g1,g0,gr,gd,gw,gs,N,g3,L,g7,R,g6⟩
   ·refine .inl ⟨B::recs,d,trf,by simp [g1],N,g3.trans (Eqv.puts recs J),λx hx=>L x (O x hx),λj r c=>?_,λj f r y c=>?_⟩
    ·cases j with
     | zero=>simp only [my,au] at c;subst c;exact hte.imp (L _) id
     | succ j=>have:=R j r (by simpa using c);rwa [show i+1+j=i+(j+1) by omega] at this
    ·cases j with
     | zero=>
      simp only [my,au] at y c;subst y c;exact ⟨hd,hl⟩
     | succ j=>
      obtain ⟨Z,F⟩:=g6 j f r (by simpa using y) (by simpa using c);rw [show i+1+j=i+(j+1) by omega] at F;exact ⟨Z,F.eqv (by simpa using Eqv.puts (recs.take j) J)⟩
   ·rw [show i+1+p=i+(p+1) by omega] at N g7;refine .inr ⟨p+1,op,B::recs,d,M,trf,v,wr,A,by simp [g1],by simpa using g0,by simpa using gr,gd,gw,gs,N,g3.trans (by simpa using Eqv.puts (recs.take p) J),λx hx=>L x (O x hx),g7.eqv (by simpa using Eqv.puts (recs.take p) J),λj r c Y=>?_,λj f r y c=>?_⟩
    ·cases j with
     | zero=>simp only [my,au] at c;subst c;exact hte.imp (L _) id
     | succ j=>have:=R j r (by simpa using c) (by omega);rwa [show i+1+j=i+(j+1) by omega] at this
    ·cases j with
     | zero=>
      simp only [my,au] at y c;subst y c;exact ⟨hd,λ_=>hl⟩
     | succ j=>
      obtain ⟨Z,F⟩:=g6 j f r (by simpa using y) (by simpa using c);rw [show i+1+j=i+(j+1) by omega,show i+1+p=i+(p+1) by omega] at F;exact ⟨Z,λhc=>(F (hc.imp (λh=>by omega) λh=>⟨by omega,h.2⟩)).eqv (by simpa using Eqv.puts (recs.take j) J)⟩
  cases W
  ·simp only at h;split at h
   case h_2=>cases h
   rename_i hd;refine more ⟨o.dst,some (.tp []),[],[]⟩ tr (I.app o.dst (some (.tp [])) [] I.nb) rfl (λs' D q2 X q4 ι0 w0 ι a w G C K Q U=>?_) (m.put ⟨o.dst,some (.tp []),[],[]⟩) (xR e.symm) (λ_ h=>h) (.inr ⟨rfl,rfl⟩) h;rw [hw s' D n ι0 ι w0 a w G];simp only [br,aB];exact U ι _ _ (λ_ _=>rfl) (G.skip hd)
  ·simp only at h;rcases CM hE (by omega) h with ⟨val,wr,rd,g,hk,q⟩ | ⟨v,wr,rd,hk,q⟩
   ·refine more ⟨o.dst,val,wr,rd⟩ (⟨i,rd,keys wr⟩::tr) (I.app o.dst val wr I.nb) rfl (λs' D q2 X q4 ι0 w0 ι a w G C K Q U=>?_) (m.put ⟨o.dst,val,wr,rd⟩) (xR e.symm) (λx hx=>fN _ hx) (.inl (by simp [keys])) hk;rw [hw s' D n ι0 ι w0 a w G];simp only [aJ];refine q s' (xH λt ht=>by rw [D t ht,m.T]) (λb hb=>by rw [q2 b hb,m.H]) (by rw [X,e]) (by rw [q4,m.ro]) ι0 w0 ι a w G (by simpa using C) K Q λι' a' w' z1 z2=>U ι' a' w' (by simpa using z1) z2
   ·obtain ⟨recs,trf,g1,N,L,R,g6⟩:=JP hE l (i+1) _ tr (by simp only [St.app];omega) hk;have J:Eqv (I.app o.dst none [] I.nb) (s.put ⟨o.dst,none,[],rd⟩):=m.put ⟨o.dst,none,[],rd⟩;refine .inr ⟨0,o,⟨o.dst,none,[],rd⟩::recs,I,_,trf,v,wr,⟨o.dst,none,[],rd⟩,by simp [g1],rfl,rfl,rfl,rfl,rfl,N,m,L,λs' D q2 X q4 ι0 w0 ι a w G C K Q U=>?_,λj r c Y=>?_,λj f r y c=>?_⟩
    ·simp only [lX,Ii] at D q2 X q4;exact ⟨hw s' D n ι0 ι w0 a w G,q s' (xH λt ht=>by rw [D t ht,m.T]) (λb hb=>by rw [q2 b hb,m.H]) (by rw [X,e]) (by rw [q4,m.ro]) ι0 w0 ι a w G (by simpa using C) K Q U⟩
    ·cases j with
     | zero=>exact absurd rfl Y
     | succ j=>have:=R j r (by simpa using c);rwa [show i+1+j=i+(j+1) by omega] at this
    ·cases j with
     | zero=>
      simp only [my,au] at y c;subst y c;exact ⟨rfl,λh=>by omega⟩
     | succ j=>
      obtain ⟨Z,F⟩:=g6 j f r (by simpa using y) (by simpa using c);rw [show i+1+j=i+(j+1) by omega] at F;refine ⟨Z,λhc=>(F ?_).eqv (by simpa using Eqv.puts (recs.take j) J)⟩;rcases hc with hc | hc
      ·omega
      ·exact hc.2
def Down (ops:List Oper) (D:Nat->Bool):Prop:=∀j o e,ops[j]?=some o->D j=true->e∈o.after.toList->Region.binds .any e=true->D e.on=true
def Must (ops:List Oper) (i j:Nat):Prop:=∀D,Down ops D->D j=true->D i=true
def Dn (a:Array Bool):Nat->Bool:=λi=>a.getD i false
structure DrawFacts (P:Program) (n nb0:Nat) (ops:List Oper) (recs:List Rec) (s0:St) (live:Nat->Prop):Prop where
 len:recs.length=ops.length
 nb:s0.nb=nb0+8*ops.length
 loc:∀(j:Nat) (o:Oper) (r:Rec),ops[j]?=some o->recs[j]?=some r->(∀t,r.dst=some t->o.dst=some t)/\(live j->vb P n nb0 ops j o r (appD 0 recs (λm=>decide (m<j)) s0))
 down:∀(j:Nat) (o:Oper) (e:Edge),ops[j]?=some o->e∈o.after.toList->Region.binds .any e=true->e.on<j
 apart:∀(i j:Nat) (x y:Oper),i<j->ops[i]?=some x->ops[j]?=some y->Must ops i j\/x.apart ops.toArray y=true
 blk:∀(i j:Nat) (x y:Rec),i<j->recs[i]?=some x->recs[j]?=some y->Must ops i j\/((∀b∈keys x.wr,b∉y.rd/\b∉keys y.wr)/\∀b∈x.rd,b∉keys y.wr)
theorem t7 {ops:List Oper} {a:Array Bool} {i:Nat} (hs:a.size=ops.length) (h:i∈Region.ready .any ops.toArray a):
  ∃o,ops[i]?=some o/\i<ops.length/\Dn a i=false/\∀e∈o.after.toList,Region.binds .any e=true->Dn a e.on=true:=by
 unfold Region.ready at h;simp only [nQ,lp,aA,wU] at h;obtain ⟨d,b,c⟩:=h;have f:ops[i]?=some ops[i]:=by simp [d]
 refine ⟨ops[i],f,d,?_,λe j g=>?_⟩
 ·unfold Dn;have:i<a.size:=by omega
  simp only [ri,WA this,wN] at b ⊢;simpa using b
 ·simp only [List.getElem?_toArray,f,fc,wN] at c;have:=(Array.all_eq_true'.1 c) e (by simpa using j);simp only [g,cv,pG] at this;exact this
theorem BE {ops:List Oper} {a:Array Bool} {i:Nat} {o:Oper} (hs:a.size=ops.length) (c:ops[i]?=some o) (b:Dn a i=false)
  (h:∀e∈o.after.toList,Region.binds .any e=true->Dn a e.on=true):i∈Region.ready .any ops.toArray a:=by
 have hi:i<ops.length:=by
  rcases aG i ops.length with d | d
  ·exact d
  ·rw [ii d] at c;cases c
 unfold Region.ready;simp only [nQ,lp,aA,wU];refine ⟨hi,?_,?_⟩
 ·have:i<a.size:=by omega
  unfold Dn at b;simp only [ri,WA this,wN] at b ⊢;simp [b]
 ·simp only [List.getElem?_toArray,c,fc,wN];refine Array.all_eq_true'.2 λe g=>?_;cases f:Region.binds .any e with
  | false=>rfl
  | true=>
   have:=h e (by simpa using g) f;unfold Dn at this;simpa using this
theorem zu {a:Array Bool} {i:Nat} (h:i<a.size) (j:Nat):Dn (a.setIfInBounds i true) j=if j=i then true else Dn a j:=by
 unfold Dn;simp only [ri];rw [SA];by_cases b:i=j
 ·subst b;simp [h]
 ·simp [b,show ¬j=i from λe=>b e.symm]
theorem Down.add {ops:List Oper} {D:Nat->Bool} (h:Down ops D) {i:Nat} {o:Oper} (U:ops[i]?=some o) (Q:∀e∈o.after.toList,Region.binds .any e=true->D e.on=true):
  Down ops λj=>if j=i then true else D j:=by
 intro j O e E J G F;show (if e.on=i then true else D e.on)=true;by_cases C:j=i
 ·subst C;rw [U] at E;cases E;have:=Q e G F;split
  ·rfl
  ·exact this
 ·simp only [C,aB] at J;have:=h j O e E J G F;split
  ·rfl
  ·exact this
theorem Must.in {ops:List Oper} {D:Nat->Bool} (h:Down ops D) {i k:Nat} {o:Oper} (E:ops[i]?=some o) (G:∀e∈o.after.toList,Region.binds .any e=true->D e.on=true)
  (F:Must ops k i) (C:k≠i):D k=true:=by
 have:=F _ (h.add E G) (by simp);simpa [C] using this
section
variable {n nb0:Nat} {ops:List Oper} {recs:List Rec} {s0:St} {live:Nat->Prop} (F:DrawFacts P n nb0 ops recs s0 live)
include F
theorem xI {i:Nat} {o:Oper} (h:ops[i]?=some o):∃r,recs[i]?=some r:=by
 have hi:i<ops.length:=by
  rcases aG i ops.length with a | a
  ·exact a
  ·rw [ii a] at h;cases h
 exact ⟨recs[i]'(by rw [F.len];exact hi),by simp [F.len,hi]⟩
theorem wv {i:Nat} {r:Rec} (h:recs[i]?=some r):∃o,ops[i]?=some o:=by
 have hi:i<recs.length:=by
  rcases aG i recs.length with a | a
  ·exact a
  ·rw [ii a] at h;cases h
 exact ⟨ops[i]'(by rw [<-F.len];exact hi),by simp [F.len▸hi]⟩
theorem BV {D:Nat->Bool} (v:Down ops D) {i:Nat} {o:Oper} (n:ops[i]?=some o) (u:D i=false) (w:∀e∈o.after.toList,Region.binds .any e=true->D e.on=true)
  {t:Nat} (s:t∈o.looksAt ops.toArray):look (appD 0 recs D s0).T t=look (appD 0 recs (λm=>decide (m<i)) s0).T t:=by
 rw [ze,ze];refine tt recs 0 _ _ t _ λj r q x=>?_;simp only [de];obtain ⟨p,b⟩:=wv F q;have a:=((F.loc j p r b q).1 t x).symm;rcases E8 j i with d | f | h
 ·have l:D j=true:=by
   rcases F.apart j i p o d b n with k | c
   ·exact k.in v n w (by omega)
   ·exact absurd s ((Fg c).1 t a.symm)
  rw [l];simp [d]
 ·subst f;simp [u]
 ·have l:D j=false:=by
   rcases F.apart i j o p h n b with k | c
   ·cases g:D j with
    | false=>rfl
    | true=>have:=k D v g;rw [u] at this;cases this
   ·exact absurd s ((Fg c).2.2 t a.symm)
  rw [l];simp;omega
theorem BJ {D:Nat->Bool} (u:Down ops D) {i:Nat} {o:Oper} {r:Rec} (w:ops[i]?=some o) (s:recs[i]?=some r) (t:D i=false)
  (v:∀e∈o.after.toList,Region.binds .any e=true->D e.on=true) {b:Nat} (p:b∈r.rd):look (appD 0 recs D s0).H b=look (appD 0 recs (λm=>decide (m<i)) s0).H b:=by
 rw [yk,yk];refine qk recs 0 _ _ b _ λj q l n=>?_;simp only [de];rcases E8 j i with c | d | g
 ·have k:D j=true:=by
   rcases F.blk j i q r c l s with h | a
   ·exact h.in u w v (by omega)
   ·exact absurd p (a.1 b n).1
  rw [k];simp [c]
 ·subst d;simp [t]
 ·have k:D j=false:=by
   rcases F.blk i j r q g s l with h | a
   ·cases f:D j with
    | false=>rfl
    | true=>have:=h D u f;rw [t] at this;cases this
   ·exact absurd n (a.2 b p)
  rw [k];simp;omega
theorem AM {D:Nat->Bool} (A:Down ops D) {i:Nat} {o:Oper} {r:Rec} (z:ops[i]?=some o) (f:recs[i]?=some r) (C:D i=false):
  Eqv ((appD 0 recs D s0).put r) (appD 0 recs (λj=>if j=i then true else D j) s0):=by
 have m:=(F.loc i o r z f).1;refine ⟨λt=>?_,λb=>?_,by rw [Vl,me,me],by show (appD 0 recs D s0).lo=_;rw [yn,yn],by show (appD 0 recs D s0).ro=_;rw [jB,jB],by show (appD 0 recs D s0).rb=_;rw [xL,xL]⟩
 ·rw [P2,ze,ze];by_cases g:r.dst=some t
  ·rw [ae g];symm;refine HU recs 0 i _ t _ r f (by simp) g λk l w c x=>?_;simp only [de,show ¬k=i by omega,aB];obtain ⟨ok,p⟩:=wv F c;have s:=(F.loc k ok l p c).1;rcases F.apart i k o ok w z p with q | d
   ·cases e:D k with
    | false=>rfl
    | true=>have:=q D A e;rw [C] at this;cases this
   ·exact absurd (s t x) ((Fg d).2.1 t (m t g))
  ·rw [ab g];refine tt recs 0 _ _ t _ λj l n y=>?_;simp only [de];by_cases a:j=i
   ·subst a;rw [f] at n;cases n;exact absurd y g
   ·simp [a]
 ·rw [OV,yk,yk];by_cases h:b∈keys r.wr
  ·obtain ⟨v,B⟩:=rO h;rw [B,Option.some_or];symm;rw [<-B];refine Hv recs 0 i _ b _ r f (by simp) h λk l w c u=>?_;simp only [de,show ¬k=i by omega,aB];rcases F.blk i k r l w f c with q | d
   ·cases e:D k with
    | false=>rfl
    | true=>have:=q D A e;rw [C] at this;cases this
   ·exact absurd u (d.1 b h).2
  ·rw [qU h,EN];refine qk recs 0 _ _ b _ λj l n u=>?_;simp only [de];by_cases a:j=i
   ·subst a;rw [f] at n;cases n;exact absurd u h
   ·simp [a]
theorem Da {kk:Nat} (z:∀j,kk<=j->j<ops.length->live j) {ι0:Inj} {w0:Base} {Q:Exit->Act->World->Prop} (S:∀ι a w,Inv n ι0 w0 ι (recs.foldl St.put s0) a w->Q .normal a w):
  ∀(fuel:Nat) (c:Array Bool) (ι:Inj) (a:Act) (w:World),c.size=ops.length->(∀j,j<kk->Dn c j=true)->Down ops (Dn c)->Inv n ι0 w0 ι (appD 0 recs (Dn c) s0) a w->
   (∀i,i<ops.length->Dn c i=false->∀b,nb0+8*i<=b->b<nb0+8*i+8->ι b=none)->((List.range ops.length).filter λi=>!Dn c i).length<=fuel->
   wpAny P .any ops.toArray Q fuel c a w:=by
 have B:∀(c:Array Bool) (ι:Inj) (a:Act) (w:World),c.size=ops.length->Inv n ι0 w0 ι (appD 0 recs (Dn c) s0) a w->Region.ready .any ops.toArray c=[]->Q .normal a w:=by
  intro c ι a w hs s m;have D:∀j,j<ops.length->Dn c j=true:=by
   intro j
   induction j using Nat.strongRecOn with
   | _ j ih=>
    intro x;cases I:Dn c j with
    | true=>rfl
    | false=>
     have f:ops[j]?=some ops[j]:=by simp [x]
     have O:=BE hs f I λe N E=>ih e.on (F.down j _ e f N E) (by have:=F.down j _ e f N E;omega);rw [m] at O;cases O
  rw [BO recs 0 (Dn c) s0 λj x=>by simpa using D j (by rw [<-F.len];exact x)] at s;exact S ι a w s
 intro fuel
 induction fuel with
 | zero=>
  intro c ι a w hs q A s v hc;have m:Region.ready .any ops.toArray c=[]:=by
   rw [List.eq_nil_iff_forall_not_mem];intro i hi;obtain ⟨o,f,g,p,_⟩:=t7 hs hi;have:i∈(List.range ops.length).filter λi=>!Dn c i:=by simp [g,p]
   have:=Ft this;omega
  exact ⟨m,B c ι a w hs s m⟩
 | succ fuel ih=>
  intro c ι a w hs q A s v hc;refine ⟨B c ι a w hs s,λi hi=>?_⟩;obtain ⟨o,f,g,p,L⟩:=t7 hs hi;obtain ⟨r,m⟩:=xI F f;have y:=(F.loc i o r f m).2 (z i (by rcases aG i kk with h | h;(· have:=q i h;rw [p] at this;cases this);exact h) g);have d:Dn (c.setIfInBounds i true)=λj=>if j=i then true else Dn c j:=by
   funext j;exact zu (by omega) j
  have G:=y (appD 0 recs (Dn c) s0) (λt R=>BV F A f p L R) (λb E=>BJ F A f m p L E) (by rw [me,me]) (by rw [jB,jB]) ι0 w0 ι a w s (v i g p)
   (wpAny P .any ops.toArray Q fuel (c.setIfInBounds i true)) Q λM T w' U V=>by
    refine ih _ M T w' (by simpa using hs) (λj x=>by rw [d];simp only;split;(· rfl);exact q j x) (by rw [d];exact A.add f L) (by rw [d];exact V.eqv (AM F A f m p)) (λj x k b H J=>?_) ?_
    ·rw [d] at k;by_cases l:j=i
     ·simp [l] at k
     ·simp only [l,aB] at k;rw [U b (by omega)];exact v j x k b H J
    ·have:((List.range ops.length).filter λj=>!Dn (c.setIfInBounds i true) j).length<((List.range ops.length).filter λj=>!Dn c j).length:=by
      rw [d];have C:((List.range ops.length).filter λj=>!(if j=i then true else Dn c j))=((List.range ops.length).filter λj=>!Dn c j).filter λj=>decide (j≠i):=by
       rw [HM];congr 1;funext j;by_cases l:j=i<;>simp [l]
      rw [C];refine An.2 ⟨i,by simp [g,p],by simp⟩
     omega
  unfold wpOp;have K:ops.toArray[i]?=some o:=by simpa using f
  rw [K];simp only;split
  ·rename_i u;rw [ae u] at G;exact .inl G
  ·rename_i u;rw [ab u] at G;exact G
theorem PP {lim kk:Nat} (C:lim<ops.length) (g:∀j,kk<=j->j<lim->live j/\Must ops j lim) (u:∀j,lim<j->j<ops.length->Must ops lim j) {ι0:Inj} {w0:Base} {Q:Exit->Act->World->Prop}
  (W:∀(fuel:Nat) (c:Array Bool) (ι:Inj) (a:Act) (w:World),c.size=ops.length->(∀j,j<lim->Dn c j=true)->Dn c lim=false->Down ops (Dn c)->Down ops (Dn (c.setIfInBounds lim true))->
   Inv n ι0 w0 ι (appD 0 recs (Dn c) s0) a w->((List.range ops.length).filter λi=>!Dn c i).length<=fuel+1->wpOp P ops.toArray Q lim (wpAny P .any ops.toArray Q fuel (c.setIfInBounds lim true)) a w):
  ∀(fuel:Nat) (c:Array Bool) (ι:Inj) (a:Act) (w:World),c.size=ops.length->(∀j,j<kk->Dn c j=true)->Down ops (Dn c)->Dn c lim=false->Inv n ι0 w0 ι (appD 0 recs (Dn c) s0) a w->
   (∀i,i<ops.length->Dn c i=false->∀b,nb0+8*i<=b->b<nb0+8*i+8->ι b=none)->((List.range ops.length).filter λi=>!Dn c i).length<=fuel->
   wpAny P .any ops.toArray Q fuel c a w:=by
 have O:∀(c:Array Bool),c.size=ops.length->Dn c lim=false->Region.ready .any ops.toArray c=[]->False:=by
  intro c hs hp y;have G:∀j,j<ops.length->Dn c j=true:=by
   intro j
   induction j using Nat.strongRecOn with
   | _ j ih=>
    intro v;cases K:Dn c j with
    | true=>rfl
    | false=>
     have f:ops[j]?=some ops[j]:=by simp [v]
     have U:=BE hs f K λe T H=>ih e.on (F.down j _ e f T H) (by have:=F.down j _ e f T H;omega);rw [y] at U;cases U
  rw [G lim C] at hp;cases hp
 intro fuel
 induction fuel with
 | zero=>
  intro c ι a w hs k m hp L s hc;have:lim∈(List.range ops.length).filter λi=>!Dn c i:=by simp [C,hp]
  have:=Ft this;omega
 | succ fuel ih=>
  intro c ι a w hs k m hp L s hc;refine ⟨λy=>(O c hs hp y).elim,λi hi=>?_⟩;obtain ⟨o,f,x,z,A⟩:=t7 hs hi;obtain ⟨r,y⟩:=xI F f;have d:Dn (c.setIfInBounds i true)=λj=>if j=i then true else Dn c j:=by
   funext j;exact zu (by omega) j
  by_cases D:i=lim
  ·subst D;refine W fuel c ι a w hs (λj v=>?_) z m (by rw [d];exact m.add f A) L hc;rcases aG j kk with h | h
   ·exact k j h
   ·exact (g j h v).2.in m f A (by omega)
  have N:ops.toArray[i]?=some o:=by simpa using f
  unfold wpOp;rw [N];simp only;have hlt':i<lim:=by
   rcases aG i lim with h | h
   ·exact h
   ·have:=(u i (by omega) x).in m f A (λe=>D e.symm);rw [hp] at this;cases this
  have S:kk<=i:=by
   rcases aG i kk with h | h
   ·have:=k i h;rw [z] at this;cases this
   ·exact h
  have B:=(F.loc i o r f y).2 (g i S hlt').1
  have I:=B (appD 0 recs (Dn c) s0) (λt V=>BV F m f z A V) (λb H=>BJ F m f y z A H) (by rw [me,me]) (by rw [jB,jB]) ι0 w0 ι a w L (s i x z)
   (wpAny P .any ops.toArray Q fuel (c.setIfInBounds i true)) Q λR X w' Y Z=>by
    refine ih _ R X w' (by simpa using hs) (λj v=>by rw [d];simp only;split;(· rfl);exact k j v) (by rw [d];exact m.add f A) (by rw [d];simp only [show ¬lim=i by omega,aB];exact hp) (by rw [d];exact Z.eqv (AM F m f y z)) (λj v l b J M=>?_) ?_
    ·rw [d] at l;by_cases p:j=i
     ·simp [p] at l
     ·simp only [p,aB] at l;rw [Y b (by omega)];exact s j v l b J M
    ·have:((List.range ops.length).filter λj=>!Dn (c.setIfInBounds i true) j).length<((List.range ops.length).filter λj=>!Dn c j).length:=by
      rw [d];have E:((List.range ops.length).filter λj=>!(if j=i then true else Dn c j))=((List.range ops.length).filter λj=>!Dn c j).filter λj=>decide (j≠i):=by
       rw [HM];congr 1;funext j;by_cases p:j=i<;>simp [p]
      rw [E];refine An.2 ⟨i,by simp [x,z],by simp⟩
     omega
  split
  ·rename_i q;rw [ae q] at I;exact .inl I
  ·rename_i q;rw [ab q] at I;exact I
theorem Qu {lim:Nat} {ι0:Inj} {w0:Base} {Q:Exit->Act->World->Prop} {R:Oper} {pr:Rec} {v:V} {wr:List (Nat×Blk)} (g:ops[lim]?=some R) (I:recs[lim]?=some pr)
  (X:y7 P n nb0 ops lim R v wr pr.rd (appD 0 recs (λm=>decide (m<lim)) s0))
  (A:∀j,j<ops.length->j≠lim->live j\/Must ops lim j)
  (hQ:∀D,Down ops D->(∀e∈R.after.toList,Region.binds .any e=true->D e.on=true)->D lim=false->∀ι x a w,VR ι v x->Inv n ι0 w0 ι ((appD 0 recs D s0).app none none wr s0.nb) a w->Q (.panic [{ v:=x,recovered:=false }]) a w):
  ∀(fuel:Nat) (c:Array Bool) (ι:Inj) (a:Act) (w:World),c.size=ops.length->Down ops (Dn c)->Dn c lim=false->Inv n ι0 w0 ι (appD 0 recs (Dn c) s0) a w->
   (∀i,i<ops.length->Dn c i=false->∀b,nb0+8*i<=b->b<nb0+8*i+8->ι b=none)->((List.range ops.length).filter λi=>!Dn c i).length<=fuel->
   wpAny P .any ops.toArray Q fuel c a w:=by
 have H:lim<ops.length:=by
  rcases aG lim ops.length with h' | h'
  ·exact h'
  ·rw [ii h'] at g;cases g
 have fin:∀(c:Array Bool),c.size=ops.length->Dn c lim=false->Region.ready .any ops.toArray c=[]->False:=by
  intro c hs hp s;have K:∀j,j<ops.length->Dn c j=true:=by
   intro j
   induction j using Nat.strongRecOn with
   | _ j ih=>
    intro hj;cases U:Dn c j with
    | true=>rfl
    | false=>
     have f:ops[j]?=some ops[j]:=by simp [hj]
     have L:=BE hs f U λe he E=>ih e.on (F.down j _ e f he E) (by have:=F.down j _ e f he E;omega);rw [s] at L;cases L
  rw [K lim H] at hp;cases hp
 intro fuel
 induction fuel with
 | zero=>
  intro c ι a w hs l hp W k hc;have:lim∈(List.range ops.length).filter λi=>!Dn c i:=by simp [H,hp]
  have:=Ft this;omega
 | succ fuel ih=>
  intro c ι a w hs l hp W k hc;refine ⟨λs=>(fin c hs hp s).elim,λi hi=>?_⟩;obtain ⟨o,f,q,u,B⟩:=t7 hs hi;obtain ⟨r,s⟩:=xI F f;have Z:ops.toArray[i]?=some o:=by simpa using f
  unfold wpOp;rw [Z];simp only;by_cases y:i=lim
  case neg=>
   rcases A i q y with O | L
   case inr=>
    have:=L.in l f B (λe=>y e.symm);rw [hp] at this;cases this
   have G:=(F.loc i o r f s).2 O;have d:Dn (c.setIfInBounds i true)=λj=>if j=i then true else Dn c j:=by
    funext j;exact zu (by omega) j
   have M:=G (appD 0 recs (Dn c) s0) (λt S=>BV F l f u B S) (λb E=>BJ F l f s u B E) (by rw [me,me]) (by rw [jB,jB]) ι0 w0 ι a w W (k i q u)
    (wpAny P .any ops.toArray Q fuel (c.setIfInBounds i true)) Q λC a' w' g1 N=>by
     refine ih _ C a' w' (by simpa using hs) (by rw [d];exact l.add f B) (by rw [d];simp only [show ¬lim=i by omega,aB];exact hp) (by rw [d];exact N.eqv (AM F l f s u)) (λj hj h b T Y=>?_) ?_
     ·rw [d] at h;by_cases p:j=i
      ·simp [p] at h
      ·simp only [p,aB] at h;rw [g1 b (by omega)];exact k j hj h b T Y
     ·have:((List.range ops.length).filter λj=>!Dn (c.setIfInBounds i true) j).length<((List.range ops.length).filter λj=>!Dn c j).length:=by
       rw [d];have J:((List.range ops.length).filter λj=>!(if j=i then true else Dn c j))=((List.range ops.length).filter λj=>!Dn c j).filter λj=>decide (j≠i):=by
        rw [HM];congr 1;funext j;by_cases p:j=i<;>simp [p]
       rw [J];refine An.2 ⟨i,by simp [q,u],by simp⟩
      omega
   split
   ·rename_i z;rw [ae z] at M;exact .inl M
   ·rename_i z;rw [ab z] at M;exact M
  case pos=>
   subst y;rw [g] at f;cases f;rw [I] at s;cases s
   obtain ⟨q1,q2⟩:=X (appD 0 recs (Dn c) s0) (λt S=>BV F l g u B S) (λb E=>BJ F l g I u B E) (by rw [me,me]) (by rw [jB,jB]) ι0 w0 ι a w W (k i q u)
    (wpAny P .any ops.toArray Q fuel (c.setIfInBounds i true)) Q λC x w' g1 N=>hQ _ l B u C x a w' g1 (by rw [me] at N;exact N)
   rw [ae q1];exact .inl q2
end
theorem Eu:∀{l:List Nat} {j:Nat},l.length<=j->getN l j=0
 | [],_,_=>rfl
 | _::_,0,h=>by simp at h
 | _::l,j+1,h=>Eu (l:=l) (by simpa using h)
theorem sO:∀{l m:List Nat} {j:Nat},j<l.length->getN (l++m) j=getN l j
 | [],_,_,h=>by simp at h
 | _::_,_,0,_=>rfl
 | _::l,m,j+1,h=>sO (l:=l) (m:=m) (by simpa using h)
theorem sR:∀(l:List Nat) (x:Nat),getN (l++[x]) l.length=x
 | [],_=>rfl
 | _::l,x=>sR l x
theorem ta (b:List Nat):∀(l:List Edge) (s i:Nat),(DL b l s).testBit i=true->s.testBit i=true\/∃e∈l,Region.binds .any e=true/\(e.on=i\/(getN b e.on).testBit i=true)
 | [],s,i,h=>.inl h
 | e::l,s,i,h=>by
  simp only [DL] at h;split at h
  ·rename_i g;rcases ta b l _ i h with a | ⟨d,c,f⟩
   ·simp only [Nat.testBit_or,iY] at a;rcases a with (a | a) | a
    ·exact .inl a
    ·refine .inr ⟨e,by simp,g,.inl ?_⟩;rw [Nat.testBit_two_pow] at a;simpa using a
    ·exact .inr ⟨e,by simp,g,.inr a⟩
   ·exact .inr ⟨d,fN _ c,f⟩
  ·rcases ta b l _ i h with a | ⟨d,c,f⟩
   ·exact .inl a
   ·exact .inr ⟨d,fN _ c,f⟩
theorem pK (ops:List Oper):∀(r:List Oper) (a:List Nat),(∀j,r[j]?=ops[a.length+j]?)->(∀j i,(getN a j).testBit i=true->Must ops i j)->
  ∀j i,(getN (k9 r a) j).testBit i=true->Must ops i j
 | [],a,_,h=>h
 | o::r,a,m,h=>by
  simp only [k9];refine pK ops r _ (λj=>by have:=m (j+1);simp only [G1] at this;rw [this];simp;congr 1;omega) λj i b=>?_;rcases E8 j a.length with g | d | q
  ·rw [sO g] at b;exact h j i b
  ·subst d;rw [sR] at b;have s:ops[a.length]?=some o:=by have:=m 0;simpa using this.symm
   rcases ta a _ _ _ b with c | ⟨e,p,k,c⟩
   ·simp at c
   ·intro D n f;have l:=n a.length o e s f p k;rcases c with rfl | c
    ·exact l
    ·exact h e.on i c D n l
  ·rw [Eu (by simp;omega)] at b;simp at b
theorem jW:∀(l:List Oper) (i:Nat),rA i l=true->∀(j:Nat) (o:Oper) (e:Edge),l[j]?=some o->e∈o.after.toList->Region.binds .any e=true->e.on<i+j
 | [],_,_,_,_,_,h,_,_=>by simp at h
 | o::l,i,h,j,d,e,a,c,b=>by
  simp only [rA,aA,cN] at h;cases j with
  | zero=>
   simp only [my,au] at a;subst a;have:=h.1 e c;simp only [b,cv,pG] at this;exact aI this
  | succ j=>have:=jW l (i+1) h.2 j d e (by simpa using a) c b;omega
theorem sS {ops:Array Oper} {o:Oper} {a:Nat}:∀(l:List Oper) (i:Nat),ua ops o a i l=true->∀(j:Nat) (p:Oper),l[j]?=some p->a.testBit (i+j)=true\/p.apart ops o=true
 | [],_,_,_,_,h=>by simp at h
 | q::l,i,h,j,p,b=>by
  simp only [ua,aA,iY] at h;cases j with
  | zero=>simp only [my,au] at b;subst b;exact h.1
  | succ j=>have:=sS l (i+1) h.2 j p (by simpa using b);rwa [show i+1+j=i+(j+1) by omega] at this
theorem nk {ops:Array Oper} {masks:List Nat}:∀(l a:List Oper),um ops masks a.length a l=true->∀(i j:Nat) (x y:Oper),i<a.length+j->(a++l)[i]?=some x->l[j]?=some y->
  (getN masks (a.length+j)).testBit i=true\/x.apart ops y=true
 | [],_,_,_,_,_,_,_,_,h=>by simp at h
 | o::l,a,h,i,j,x,y,hi,hx,hy=>by
  simp only [um,aA] at h;cases j with
  | zero=>
   simp only [my,au] at hy;subst hy;have:=sS a 0 h.1 i x (by rw [oc (by simpa using hi)] at hx;exact hx);simpa using this
  | succ j=>
   have b:=h.2;rw [show a.length+1=(a++[o]).length by simp] at b;have:=nk l (a++[o]) b i j x y (by simp;omega) (by simpa using hx) (by simpa using hy);rwa [show (a++[o]).length+j=a.length+(j+1) by simp;omega] at this
theorem rG {masks:List Nat}:∀{tr:List TE},qh masks tr=true->∀x∈tr,∀y∈tr,x.i<y.i->xc masks x y=true\/xc masks y x=true
 | [],_,x,hx,_,_,_=>by cases hx
 | z::l,h,x,hx,y,hy,c=>by
  simp only [qh,aA,cN] at h;rcases dr.1 hx with b | b
  ·subst b;rcases dr.1 hy with a | a
   ·subst a;omega
   ·exact .inl (h.1 y a)
  ·rcases dr.1 hy with a | a
   ·subst a;exact .inr (h.1 x b)
   ·exact rG h.2 x b y a c
theorem wC {x y:TE} (h:RF x y=false):(∀b∈x.ws,b∉y.rd/\b∉y.ws)/\∀b∈x.rd,b∉y.ws:=by
 simp only [RF,pw,sN,iY,not_or,List.contains_iff_mem] at h;exact ⟨λb a=>h.1 b a,λb a=>h.2 b a⟩
theorem Du {masks:List Nat} {x y:TE} (h:xc masks x y=true\/xc masks y x=true) (e:x.i<y.i):
  (getN masks y.i).testBit x.i=true\/((∀b∈x.ws,b∉y.rd/\b∉y.ws)/\∀b∈x.rd,b∉y.ws):=by
 have k:Nat.blt x.i y.i=true:=di e;have g:Nat.blt y.i x.i=false:=by
  cases f:Nat.blt y.i x.i with
  | false=>rfl
  | true=>have:y.i<x.i:=aI f;omega
 rcases h with h | h
 ·simp only [xc,k,ah,iY,ly] at h;exact h.imp id wC
 ·simp only [xc,g,af,iY,ly] at h;refine h.imp id λh=>?_;obtain ⟨a,b⟩:=wC h;exact ⟨λc hc=>⟨λj=>b c j hc,λd=>(a c d).2 hc⟩,λc hc d=>(a c d).1 hc⟩
theorem uY:∀(ops:List Oper) {T:List (Nat×Option V)} (t:Nat) (v:V),look (I8 ops T) t=some (some v)->(∀o∈ops,o.dst≠some t)/\look T t=some (some v)
 | [],T,t,v,h=>⟨by simp,h⟩
 | o::l,T,t,v,h=>by
  simp only [I8] at h;split at h
  ·rename_i d f;rw [aS] at h;split at h
   ·cases h
   ·rename_i b;obtain ⟨c,a⟩:=uY l t v h;refine ⟨λx hx=>?_,a⟩;rcases dr.1 hx with rfl | hx
    ·rw [f];intro e;cases e;exact b rfl
    ·exact c x hx
  ·rename_i f;obtain ⟨c,a⟩:=uY l t v h;refine ⟨λx hx=>?_,a⟩;rcases dr.1 hx with rfl | hx
   ·rw [f];intro e;cases e
   ·exact c x hx
theorem Ix {α:Type} {E:List Ent} (hE:∀x∈E,fH P x) {n:Nat} {ops:List Oper} {s:St} {k:Ex->St->Option α} {z:α} (h:EQ P E n ops s k=some z) (id:Nat):
  SemC P n (.region id ops.toArray true) s λex s'=>k ex s'=some z:=by
 intro ι0 w0 ι a w hI;unfold EQ at h;split at h
 case h_2=>cases h
 rename_i hok;simp only [aA,GO] at hok;obtain ⟨⟨hb1,hb2,_⟩,R⟩:=hok;have g:=pK ops ops [] (by simp) (λj i u=>by simp [getN] at u);have hI1:Inv n ι0 w0 ι { s with nb:=s.nb+8*ops.length } a { w with drawn:=w.drawn+1 }:=by
  have d:=hI.drawn (w.drawn+1);exact ⟨d.size,d.defers,d.tmps,⟨d.mem.inj,λb r u=>by have:=d.mem.low b r u;simp only;omega,d.mem.dom,d.mem.blk⟩,d.ext,d.new,d.fr,d.low,d.fz,d.gl⟩
 have J:∀i,Dn (Array.replicate ops.toArray.size false) i=false:=by
  intro i;unfold Dn;simp only [ri,We];split<;>rfl
 have hno:∀(l:List Rec) (i:Nat) (D:Nat->Bool) (s:St),(∀j,D j=false)->appD i l D s=s:=by
  intro l
  induction l with
  | nil=>intros;rfl
  | cons r l ih=>intro i D s hD;simp only [appD,hD i,br,aB];exact ih _ D s hD
 have C:∀(trf:List TE) (x y:Rec) (i j:Nat),qh (k9 ops []) (trf.filter λx=>!(x.rd.isEmpty&&x.ws.isEmpty))=true->i<j->((⟨0+i,x.rd,keys x.wr⟩:TE)∈trf\/(x.rd=[]/\x.wr=[]))->((⟨0+j,y.rd,keys y.wr⟩:TE)∈trf\/(y.rd=[]/\y.wr=[]))->
   Must ops i j\/((∀b∈keys x.wr,b∉y.rd/\b∉keys y.wr)/\∀b∈x.rd,b∉keys y.wr):=by
  intro trf x y i j I B hx hy;rcases hx with hxm | ⟨hx1,hx2⟩
  ·rcases hy with hym | ⟨hy1,hy2⟩
   ·simp only [de] at hxm hym;by_cases he1:(x.rd=[]/\x.wr=[])
    ·exact .inr (by simp [he1.1,he1.2,keys])
    ·by_cases Y:(y.rd=[]/\y.wr=[])
     ·exact .inr (by simp [Y.1,Y.2,keys])
     ·have m1:(⟨i,x.rd,keys x.wr⟩:TE)∈trf.filter λx=>!(x.rd.isEmpty&&x.ws.isEmpty):=by
       refine nQ.2 ⟨hxm,?_⟩;simp only [keys,ly,EA,Is];rcases If (x.rd=[]) with h | h
       ·exact .inr (by simpa using λhw=>he1 ⟨h,hw⟩)
       ·exact .inl h
      have m2:(⟨j,y.rd,keys y.wr⟩:TE)∈trf.filter λx=>!(x.rd.isEmpty&&x.ws.isEmpty):=by
       refine nQ.2 ⟨hym,?_⟩;simp only [keys,ly,EA,Is];rcases If (y.rd=[]) with h | h
       ·exact .inr (by simpa using λhw=>Y ⟨h,hw⟩)
       ·exact .inl h
      have:=Du (rG I _ m1 _ m2 B) B;exact this.imp (g j i) λh=>h
   ·exact .inr (by simp [hy1,hy2,keys])
  ·exact .inr (by simp [hx1,hx2,keys])
 rcases BM hE ops 0 _ [] (by simp) h with ⟨recs,Q,trf,g1,S,O,_,W,g6⟩ | ⟨p,po,recs,Q,sp,trf,v,wr,rp,g1,g0,gr,gd,gw,rfl,S,O,_,g7,W,g6⟩
 ·split at S
  case h_2=>cases S
  rename_i I;have F:DrawFacts P n s.nb ops recs { s with nb:=s.nb+8*ops.length } (λ_=>True):=by
   refine ⟨g1,rfl,λj o r N hr=>?_,λj o e N he u=>?_,λi j x y B hx hy=>?_,λi j x y B hx hy=>?_⟩
   ·obtain ⟨p1,p2⟩:=g6 j o r N hr;simp only [de] at p2;have e:=rz recs 0 j { s with nb:=s.nb+8*ops.length };simp only [de] at e;exact ⟨λt U=>p1▸U,λ_=>p2.eqv e⟩
   ·have:=jW ops 0 hb1 j o e N he u;omega
   ·have:=nk (masks:=k9 ops []) ops [] hb2 i j x y (by simpa using B) (by simpa using hx) hy;simp only [aX,de] at this;exact this.imp (g j i) λh=>h
   ·exact C trf x y i j I B (W i x hx) (W j y hy)
  refine wp_region_any R (Da (kk:=0) F (λ_ _ _=>trivial) (λM a' w' f=>⟨.normal,Q,M,rfl,f.eqv O.symm,S⟩) _ _ ι a _ (by simp) (λj Z=>by omega) (λj o e _ G=>by rw [J j] at G;cases G) (by rw [hno recs 0 _ _ J];exact hI1) (λi _ _ b u _=>?_) ?_)
  ·exact hI.fresh b (by omega)
  ·have:=AI (λi=>!Dn (Array.replicate ops.toArray.size false) i) (List.range ops.length);simpa using this
 ·split at S
  case h_2=>cases S
  rename_i hpk;simp only [aA,Wp] at hpk;obtain ⟨hw,I⟩:=hpk;simp only [de] at S g7 hw;have B:p<ops.length:=by
   rcases aG p ops.length with h' | h'
   ·exact h'
   ·rw [ii h'] at g0;cases g0
  have A:∀i r,recs[i]?=some r->i≠p->(i<p/\Must ops i p)\/r.wr=[]:=by
   intro i r hr K;rcases W i r hr K with hx | hx
   ·have:=(cN.1 hw) _ hx;simp only [de,iY,aA] at this;rcases this with h | h
    ·right;simpa [keys] using h
    ·exact .inl ⟨aI h.1,g p i h.2⟩
   ·exact .inr hx.2
  have g5':∀(j:Nat) (r:Rec),recs[j]?=some r->j≠p->(⟨0+j,r.rd,keys r.wr⟩:TE)∈trf\/(r.rd=[]/\r.wr=[]):=W;have F:DrawFacts P n s.nb ops recs { s with nb:=s.nb+8*ops.length } (λj=>j<p\/(p<j/\(getN (k9 ops []) (0+j)).testBit (0+p)=false)):=by
   refine ⟨g1,rfl,λj o r N hr=>?_,λj o e N he u=>?_,λi j x y V hx hy=>?_,λi j x y V hx hy=>?_⟩
   ·obtain ⟨p1,p2⟩:=g6 j o r N hr;have e:=rz recs 0 j { s with nb:=s.nb+8*ops.length };simp only [de] at e p2 ⊢;exact ⟨λt U=>p1▸U,λhc=>(p2 hc).eqv e⟩
   ·have:=jW ops 0 hb1 j o e N he u;omega
   ·have:=nk (masks:=k9 ops []) ops [] hb2 i j x y (by simpa using V) (by simpa using hx) hy;simp only [aX,de] at this;exact this.imp (g j i) λh=>h
   ·by_cases K:i=p
    ·
     subst K;rw [gr] at hx;cases hx;rcases A j y hy (by omega) with ⟨h,_⟩ | h
     ·omega
     ·exact .inr (by simp [gw,h,keys])
    ·by_cases L:j=p
     ·subst L;rw [gr] at hy;cases hy;rcases A i x hx K with ⟨_,h⟩ | h
      ·exact .inl h
      ·exact .inr (by simp [gw,h,keys])
     ·exact C trf x y i j I V (W i x hx K) (W j y hy L)
  have c:Eqv ((recs.take p).foldl St.put { s with nb:=s.nb+8*ops.length }) (appD 0 recs (λm=>decide (m<p)) { s with nb:=s.nb+8*ops.length }):=by
   have e:=rz recs 0 p { s with nb:=s.nb+8*ops.length };simpa using e
  have X:∀j,j<ops.length->j≠p->(j<p\/(p<j/\(getN (k9 ops []) (0+j)).testBit (0+p)=false))\/Must ops p j:=by
   intro j _ hne;cases u:(getN (k9 ops []) (0+j)).testBit (0+p) with
   | false=>exact .inl ((Nat.lt_or_gt_of_ne hne).imp (λh=>h) λh=>⟨h,rfl⟩)
   | true=>simp only [de] at u;exact .inr (g j p u)
  refine wp_region_any R (Qu F g0 gr (g7.eqv c) X (λD hD hd hn M x a' w' hv f=>⟨.pan v,_,M,⟨x,rfl,hv⟩,?inv,S⟩) _ _ ι a _ (by simp) (λj o e _ G=>by rw [J j] at G;cases G) (J p) (by rw [hno _ 0 _ _ J];exact hI1) (λi _ _ b u _=>?fresh) ?len)
  case inv=>
   have hH:∀b,look Q.H b=look (appD 0 recs D { s with nb:=s.nb+8*ops.length }).H b:=by
    intro b;rw [O.H,c.H,yk,yk];refine qk _ 0 _ _ b _ λj r Z u=>?_;simp only [de];by_cases L:j=p
    ·subst L;rw [gr] at Z;cases Z;rw [gw] at u;simp [keys] at u
    ·rcases A j r Z L with ⟨d,hm⟩ | hm
     ·rw [hm.in hD g0 hd (by omega)];simp [d]
     ·rw [hm] at u;simp [keys] at u
   have hT:∀t v,look (I8 ops s.T) t=some (some v)->look (appD 0 recs D { s with nb:=s.nb+8*ops.length }).T t=some (some v):=by
    intro t v U;obtain ⟨d,h2⟩:=uY ops t v U;rw [ze,zD _ 0 D t _ λj r Z hr=>?_]
    ·exact h2
    ·exfalso;obtain ⟨o,N⟩:=wv F Z;exact d o (gB N) ((F.loc j o r N Z).1 t hr)
   refine ⟨f.size,f.defers,λt v U=>f.tmps t v (hT t v U),⟨f.mem.inj,λb r u=>?_,f.mem.dom,λb blk hl hdd=>f.mem.blk b blk ?_ hdd⟩,?_,f.new,?_,λb r u=>?_,?_,?_⟩
   ·have:=f.mem.low b r u;have e:=O.nb.trans c.nb;rw [me] at e;show b<Q.nb;rw [e];exact this
   ·show look (wr++(appD 0 recs D { s with nb:=s.nb+8*ops.length }).H) b=_;rw [qp,<-hH b,<-qp];exact hl
   ·have e:=O.rb.trans c.rb;rw [xL] at e;have d:=f.ext;show ∀b q,ι0 b=some q->M b=some q\/Q.rb<=b;rw [e];simp only [St.app,xL] at d;exact d
   ·have e:=O.ro.trans c.ro;rw [jB] at e;have d:=f.fr;show Fr (roI ι0 Q.ro) w0.w w';rw [e];simp only [St.app,jB] at d;exact d
   ·have e:=O.lo.trans c.lo;rw [yn] at e;have d:=f.low b r u;show b<Q.lo;rw [e];simp only [St.app,yn] at d;exact d
   ·have e:=O.ro.trans c.ro;rw [jB] at e;have d:=f.fz;show ∀b q,M b=some (some q)->q.fz=true->b<Q.ro;rw [e];simp only [St.app,jB] at d;exact d
   ·have e:=O.ro.trans c.ro;rw [jB] at e;have d:=f.gl;show GL (roI ι0 Q.ro) w0.w;rw [e];simp only [St.app,jB] at d;exact d
  case fresh=>exact hI.fresh b (by omega)
  case len=>
   have:=AI (λi=>!Dn (Array.replicate ops.toArray.size false) i) (List.range ops.length);simpa using this
end Go.Abs
