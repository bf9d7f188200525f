
/- A region that draws its order: where what is unordered does not meet, every order comes to what the order of the text comes to.
   Conditions: none; generic over the program. -/
import Derived.Test.YtfiponokimbeeaaGreatDoorAbsM
set_option linter.unusedSimpArgs false
set_option linter.unusedVariables false
namespace Go.Abs
variable {P:Program}
structure Rec where
 dst:Option Nat
 val:Option V
 wr:List (Nat×Blk)
 rd:List Nat
def St.put (s:St) (r:Rec):St:=s.app r.dst r.val r.wr s.nb
def keys (wr:List (Nat×Blk)):List Nat:=wr.map (·.1)
theorem nJ {α:Type} (l m:List (Nat×α)) (n:Nat):look (l++m) n=(look l n).or (look m n):=by
 induction l with
 | nil=>rfl
 | cons x l ih=>
  obtain ⟨k,v⟩:=x;rw [dQ,aN,aN];split
  ·rfl
  ·exact ih
theorem pC {α:Type} {l:List (Nat×α)} {n:Nat} (h:n∉l.map (·.1)):look l n=none:=by
 induction l with
 | nil=>rfl
 | cons x l ih=>
  obtain ⟨k,v⟩:=x;simp only [iC,cf,not_or] at h;rw [aN,ab (λe=>h.1 e.symm)];exact ih h.2
theorem pV {α:Type} {l:List (Nat×α)} {n:Nat} (h:n∈l.map (·.1)):∃v,look l n=some v:=by
 induction l with
 | nil=>simp at h
 | cons x l ih=>
  obtain ⟨k,v⟩:=x;rw [aN];split
  ·exact ⟨v,rfl⟩
  ·rename_i a;simp only [iC,cf] at h;exact ih (h.resolve_left λe=>a e.symm)
theorem LK (s:St) (r:Rec) (t:Nat):look (s.put r).T t=if r.dst=some t then some r.val else look s.T t:=by
 unfold St.put St.app;cases a:r.dst with
 | none=>simp
 | some d=>
  simp only [aN];by_cases h:d=t
  ·subst h;simp
  ·simp [h]
theorem Lr (s:St) (r:Rec) (b:Nat):look (s.put r).H b=(look r.wr b).or (look s.H b):=nJ _ _ _
theorem SJ (s:St) (r:Rec):(s.put r).nb=s.nb:=rfl
structure Eqv (s s':St):Prop where
 T:∀t,look s.T t=look s'.T t
 H:∀b,look s.H b=look s'.H b
 nb:s.nb=s'.nb
 lo:s.lo=s'.lo
 ro:s.ro=s'.ro
 rb:s.rb=s'.rb
theorem Eqv.refl (s:St):Eqv s s:=⟨λ_=>rfl,λ_=>rfl,rfl,rfl,rfl,rfl⟩
theorem Eqv.symm {s s':St} (h:Eqv s s'):Eqv s' s:=⟨λt=>(h.T t).symm,λb=>(h.H b).symm,h.nb.symm,h.lo.symm,h.ro.symm,h.rb.symm⟩
theorem Eqv.trans {a b c:St} (h:Eqv a b) (k:Eqv b c):Eqv a c:=⟨λt=>(h.T t).trans (k.T t),λt=>(h.H t).trans (k.H t),h.nb.trans k.nb,h.lo.trans k.lo,h.ro.trans k.ro,h.rb.trans k.rb⟩
theorem Eqv.put {s s':St} (h:Eqv s s') (r:Rec):Eqv (s.put r) (s'.put r):=
 ⟨λt=>by rw [LK,LK,h.T],λb=>by rw [Lr,Lr,h.H],h.nb,h.lo,h.ro,h.rb⟩
theorem Eqv.puts:∀(l:List Rec) {s s':St},Eqv s s'->Eqv (l.foldl St.put s) (l.foldl St.put s')
 | [],_,_,h=>h
 | r::l,_,_,h=>Eqv.puts l (h.put r)
theorem Inv.eqv {n:Nat} {ι0 ι:Inj} {w0:Base} {s s':St} {a:Act} {w:World} (h:Inv n ι0 w0 ι s a w) (e:Eqv s s'):Inv n ι0 w0 ι s' a w:=
 ⟨h.size,h.defers,λt v F=>h.tmps t v (by rw [e.T];exact F),⟨h.mem.inj,λb r C=>by rw [<-e.nb];exact h.mem.low b r C,h.mem.dom,λb blk G E=>h.mem.blk b blk (by rw [e.H];exact G) E⟩,by rw [<-e.rb];exact h.ext,h.new,by rw [<-e.ro];exact h.fr,λb r C=>by rw [<-e.lo];exact h.low b r C,by rw [<-e.ro];exact h.fz,by rw [<-e.ro];exact h.gl⟩
def appD:Nat->List Rec->(Nat->Bool)->St->St
 | _,[],_,s=>s
 | i,r::l,D,s=>appD (i+1) l D (if D i=true then s.put r else s)
def vq:Nat->List Rec->(Nat->Bool)->Nat->Option (Option V)->Option (Option V)
 | _,[],_,_,x=>x
 | i,r::l,D,t,x=>vq (i+1) l D t (if D i=true/\r.dst=some t then some r.val else x)
def wq:Nat->List Rec->(Nat->Bool)->Nat->Option Blk->Option Blk
 | _,[],_,_,x=>x
 | i,r::l,D,b,x=>wq (i+1) l D b (if D i=true then (look r.wr b).or x else x)
theorem xE:∀(l:List Rec) (i:Nat) (D:Nat->Bool) (s:St) (t:Nat),look (appD i l D s).T t=vq i l D t (look s.T t)
 | [],_,_,_,_=>rfl
 | r::l,i,D,s,t=>by
  simp only [appD,vq,xE l];congr 1;cases D i
  ·simp
  ·simp only [ku,aI];rw [LK]
theorem vI:∀(l:List Rec) (i:Nat) (D:Nat->Bool) (s:St) (b:Nat),look (appD i l D s).H b=wq i l D b (look s.H b)
 | [],_,_,_,_=>rfl
 | r::l,i,D,s,b=>by
  simp only [appD,wq,vI l];congr 1;cases D i
  ·simp
  ·simp only [aI];rw [Lr]
theorem ko:∀(l:List Rec) (i:Nat) (D:Nat->Bool) (s:St),(appD i l D s).nb=s.nb
 | [],_,_,_=>rfl
 | r::l,i,D,s=>by
  simp only [appD,ko l];split<;>rfl
theorem ia:∀(l:List Rec) (i:Nat) (D:Nat->Bool) (s:St),(appD i l D s).ro=s.ro
 | [],_,_,_=>rfl
 | r::l,i,D,s=>by
  simp only [appD,ia l];split<;>rfl
theorem vX:∀(l:List Rec) (i:Nat) (D:Nat->Bool) (s:St),(appD i l D s).lo=s.lo
 | [],_,_,_=>rfl
 | r::l,i,D,s=>by
  simp only [appD,vX l];split<;>rfl
theorem vN:∀(l:List Rec) (i:Nat) (D:Nat->Bool) (s:St),(appD i l D s).rb=s.rb
 | [],_,_,_=>rfl
 | r::l,i,D,s=>by
  simp only [appD,vN l];split<;>rfl
theorem qR:∀(l:List Rec) (i:Nat) (D a:Nat->Bool) (t:Nat) (x:Option (Option V)),(∀j r,l[j]?=some r->r.dst=some t->D (i+j)=a (i+j))->vq i l D t x=vq i l a t x
 | [],_,_,_,_,_,_=>rfl
 | r::l,i,D,a,t,x,h=>by
  simp only [vq];have c:=h 0 r (by simp);simp only [bZ] at c;rw [qR l (i+1) D a t _ λj e f d=>by have:=h (j+1) e (by simpa using f) d;rwa [show i+(j+1)=i+1+j by omega] at this];congr 1;by_cases b:r.dst=some t
  ·rw [c b]
  ·simp [b]
theorem xm (l:List Rec) (i:Nat) (D:Nat->Bool) (t:Nat) (x:Option (Option V)) (h:∀j r,l[j]?=some r->r.dst=some t->D (i+j)=false):vq i l D t x=x:=by
 induction l generalizing i x with
 | nil=>rfl
 | cons r l ih=>
  simp only [vq];have a:=h 0 r (by simp);simp only [bZ] at a;have:¬(D i=true/\r.dst=some t):=λ⟨b,e⟩=>by rw [a e] at b;cases b
  rw [ab this];exact ih (i+1) x λj d f c=>by have:=h (j+1) d (by simpa using f) c;rwa [show i+(j+1)=i+1+j by omega] at this
theorem Eg:∀(l:List Rec) (i j:Nat) (D:Nat->Bool) (t:Nat) (x:Option (Option V)) (r:Rec),l[j]?=some r->D (i+j)=true->r.dst=some t->
  (∀k b,j<k->l[k]?=some b->b.dst=some t->D (i+k)=false)->vq i l D t x=some r.val
 | [],_,_,_,_,_,_,h,_,_,_=>by simp at h
 | r0::l,i,0,D,t,x,r,h,d,e,a=>by
  simp only [kV,ak] at h;subst h;simp only [bZ] at d;simp only [vq];rw [ae ⟨d,e⟩];exact xm l (i+1) D t _ λk b f c=>by have:=a (k+1) b (by omega) (by simpa using f) c;rwa [show i+(k+1)=i+1+k by omega] at this
 | r0::l,i,j+1,D,t,x,r,h,d,e,a=>by
  simp only [vq]
  exact Eg l (i+1) j D t _ r (by simpa using h) (by rwa [show i+1+j=i+(j+1) by omega]) e λk b f g c=>by
   have:=a (k+1) b (by omega) (by simpa using g) c;rwa [show i+(k+1)=i+1+k by omega] at this
theorem nX:∀(l:List Rec) (i:Nat) (D a:Nat->Bool) (b:Nat) (x:Option Blk),(∀j r,l[j]?=some r->b∈keys r.wr->D (i+j)=a (i+j))->wq i l D b x=wq i l a b x
 | [],_,_,_,_,_,_=>rfl
 | r::l,i,D,a,b,x,h=>by
  simp only [wq];have d:=h 0 r (by simp);simp only [bZ] at d;rw [nX l (i+1) D a b _ λj f g e=>by have:=h (j+1) f (by simpa using g) e;rwa [show i+(j+1)=i+1+j by omega] at this];congr 1;by_cases c:b∈keys r.wr
  ·rw [d c]
  ·simp [pC c]
theorem Gf (l:List Rec) (i:Nat) (D:Nat->Bool) (b:Nat) (x:Option Blk) (h:∀j r,l[j]?=some r->b∈keys r.wr->D (i+j)=false):wq i l D b x=x:=by
 induction l generalizing i x with
 | nil=>rfl
 | cons r l ih=>
  simp only [wq];have a:=h 0 r (by simp);simp only [bZ] at a;have:(if D i=true then (look r.wr b).or x else x)=x:=by
   by_cases c:b∈keys r.wr
   ·rw [a c];simp
   ·rw [pC c];simp
  rw [this];exact ih (i+1) x λj e f d=>by have:=h (j+1) e (by simpa using f) d;rwa [show i+(j+1)=i+1+j by omega] at this
theorem EG:∀(l:List Rec) (i j:Nat) (D:Nat->Bool) (b:Nat) (x:Option Blk) (r:Rec),l[j]?=some r->D (i+j)=true->b∈keys r.wr->
  (∀k c,j<k->l[k]?=some c->b∈keys c.wr->D (i+k)=false)->wq i l D b x=look r.wr b
 | [],_,_,_,_,_,_,h,_,_,_=>by simp at h
 | r0::l,i,0,D,b,x,r,h,e,f,a=>by
  simp only [kV,ak] at h;subst h;simp only [bZ] at e;simp only [wq];obtain ⟨v,n⟩:=pV f;rw [ae e,n];exact Gf l (i+1) D b _ λk c g d=>by have:=a (k+1) c (by omega) (by simpa using g) d;rwa [show i+(k+1)=i+1+k by omega] at this
 | r0::l,i,j+1,D,b,x,r,h,e,f,a=>by
  simp only [wq]
  exact EG l (i+1) j D b _ r (by simpa using h) (by rwa [show i+1+j=i+(j+1) by omega]) f λk c g m d=>by
   have:=a (k+1) c (by omega) (by simpa using m) d;rwa [show i+(k+1)=i+1+k by omega] at this
theorem pm:∀(l:List Rec) (i j:Nat) (s:St),Eqv ((l.take j).foldl St.put s) (appD i l (λm=>decide (m<i+j)) s)
 | [],i,j,s=>by simp [appD];exact Eqv.refl s
 | r::l,i,0,s=>by
  have:∀(l:List Rec) (i a:Nat) (s:St),i<=a->appD a l (λm=>decide (m<i)) s=s:=by
   intro l
   induction l with
   | nil=>intros;rfl
   | cons r l ih=>intro i a s h;simp only [appD,show ¬a<i by omega,mb,bj,aE];exact ih i (a+1) s (by omega)
  simp only [jU,Fp,bZ];rw [this (r::l) i i s (aQ _)];exact Eqv.refl s
 | r::l,i,j+1,s=>by
  simp only [kn,tz,appD,show i<i+(j+1) by omega,mN,aI];have:=pm l (i+1) j (s.put r);rwa [show (λm=>decide (m<i+1+j))=λm=>decide (m<i+(j+1)) by funext m;simp only [nY];omega] at this
theorem zt:∀(l:List Rec) (i:Nat) (D:Nat->Bool) (s:St),(∀j,j<l.length->D (i+j)=true)->appD i l D s=l.foldl St.put s
 | [],_,_,_,_=>rfl
 | r::l,i,D,s,h=>by
  have a:=h 0 (by simp);simp only [bZ] at a;simp only [appD,a,aI,tz];exact zt l (i+1) D _ λj b=>by have:=h (j+1) (by simpa using b);rwa [show i+(j+1)=i+1+j by omega] at this
def sU (P:Program) (n nb0:Nat) (ops:List Oper) (i:Nat) (o:Oper) (r:Rec) (base:St):Prop:=
 ∀s':St,(∀t∈o.looksAt ops.toArray,look s'.T t=look base.T t)->(∀b∈r.rd,look s'.H b=look base.H b)->s'.nb=base.nb->s'.ro=base.ro->
  ∀(ι0:Inj) (w0:Base) (ι:Inj) (a:Act) (w:World),Inv n ι0 w0 ι s' a w->(∀b,nb0+8*i<=b->b<nb0+8*i+8->ι b=none)->∀(K:Act->World->Prop) (Q:Exit->Act->World->Prop),
   (∀c d w',(∀b,(b<nb0+8*i\/nb0+8*i+8<=b)->c b=ι b)->Inv n ι0 w0 c (s'.put r) d w'->K d w')->
   if Region.wanted o (yielded ops.toArray a.tmps) then o.wp P a w K Q else K (a.put o.dst undef) w
def yh (P:Program) (n nb0:Nat) (ops:List Oper) (i:Nat) (o:Oper) (v:V) (wr:List (Nat×Blk)) (rd:List Nat) (base:St):Prop:=
 ∀s':St,(∀t∈o.looksAt ops.toArray,look s'.T t=look base.T t)->(∀b∈rd,look s'.H b=look base.H b)->s'.nb=base.nb->s'.ro=base.ro->
  ∀(ι0:Inj) (w0:Base) (ι:Inj) (a:Act) (w:World),Inv n ι0 w0 ι s' a w->(∀b,nb0+8*i<=b->b<nb0+8*i+8->ι b=none)->∀(K:Act->World->Prop) (Q:Exit->Act->World->Prop),
   (∀c x w',VR c v x->Inv n ι0 w0 c (s'.app none none wr s'.nb) a w'->Q (.panic [{ v:=x,recovered:=false }]) a w')->
   Region.wanted o (yielded ops.toArray a.tmps)=true/\o.wp P a w K Q
theorem yh.eqv {n nb0:Nat} {ops:List Oper} {i:Nat} {o:Oper} {v:V} {wr:List (Nat×Blk)} {rd:List Nat} {base C:St} (h:yh P n nb0 ops i o v wr rd base) (e:Eqv base C):yh P n nb0 ops i o v wr rd C:=
 λs' O F Q G=>h s' (λt E=>by rw [O t E,e.T]) (λb J=>by rw [F b J,e.H]) (by rw [Q,e.nb]) (by rw [G,e.ro])
theorem sU.eqv {n nb0:Nat} {ops:List Oper} {i:Nat} {o:Oper} {r:Rec} {base C:St} (h:sU P n nb0 ops i o r base) (e:Eqv base C):sU P n nb0 ops i o r C:=
 λs' O F Q G=>h s' (λt E=>by rw [O t E,e.T]) (λb J=>by rw [F b J,e.H]) (by rw [Q,e.nb]) (by rw [G,e.ro])
theorem xi {α:Type} {ops:List Oper} {o:Oper} {s:St} {k:Bool->St->Option α} {z:α} (h:uQ ops o s k=some z):
  ∃c r,k c r=some z/\Eqv r s/\∀s':St,(∀t∈o.looksAt ops.toArray,look s'.T t=look s.T t)->∀(n:Nat) (ι0 ι:Inj) (w0:Base) (a:Act) (w:World),Inv n ι0 w0 ι s' a w->
   Region.wanted o (yielded ops.toArray a.tmps)=c:=by
 unfold uQ at h;split at h
 ·rename_i l;exact ⟨true,s,h,Eqv.refl s,λ_ _ _ _ _ _ _ _ _=>by simp [Region.wanted,l]⟩
 ·rename_i j c l;split at h
  case h_2=>cases h
  rename_i d i;have f:d∈o.looksAt ops.toArray:=by
   unfold Oper.looksAt;unfold gtmp at i;split at i
   ·rename_i u q;simp [l,q,i]
   ·cases i
  have again:∀x,look s.T d=some (some (.b x))->Eqv { s with T:=(d,some (V.b x))::s.T } s:=by
   intro x hx;refine ⟨λt=>?_,λ_=>rfl,rfl,rfl,rfl,rfl⟩;show look ((d,some (V.b x))::s.T) t=look s.T t;rw [aN];split
   ·rename_i e;subst e;exact hx.symm
   ·rfl
  split at h
  ·rename_i x hx;cases x
   ·refine ⟨!c,_,h,again _ hx,λs' hs n ι0 ι w0 a w m=>?_⟩;obtain ⟨y,p,g⟩:=m.tmps d _ (by rw [hs d f];exact hx);simp only [VR] at g;subst g;have hy:=pJ i a.tmps;rw [p] at hy;cases c<;>simp [Region.wanted,l,hy]
   ·refine ⟨c,_,h,again _ hx,λs' hs n ι0 ι w0 a w m=>?_⟩;obtain ⟨y,p,g⟩:=m.tmps d _ (by rw [hs d f];exact hx);simp only [VR] at g;subst g;have hy:=pJ i a.tmps;rw [p] at hy;cases c<;>simp [Region.wanted,l,hy]
  ·rename_i hx;refine ⟨false,s,h,Eqv.refl s,λs' hs n ι0 ι w0 a w m=>?_⟩;obtain ⟨y,p,g⟩:=m.tmps d _ (by rw [hs d f];exact hx);simp only [VR] at g;obtain ⟨v,rfl,_⟩:=g;have hy:=pJ i a.tmps;rw [p] at hy;simp [Region.wanted,l,hy]
  ·cases h
theorem vh {ops:Array Oper} {o:Oper} {s s':St} (h:∀t∈o.looksAt ops,look s'.T t=look s.T t):∀x∈o.op.operands.toList,opd s'.T x=opd s.T x:=by
 intro x hx;cases x with
 | tmp t=>
  have:=h t (by
   unfold Oper.looksAt;simp only [kX,List.mem_filterMap];exact .inl ⟨.tmp t,hx,rfl⟩)
  simp only [opd,this]
 | _=>rfl
theorem HT {α:Type} {E:List Ent} (Y:∀x∈E,ep P x) {n nb0:Nat} {ops:List Oper} {masks:List Nat} {p:Nat} {k:List TE->Option α} {z:α}:∀(l:List Oper) (i:Nat) (s:St) (tr:List TE),
  nb0+8*(i+l.length)<=s.nb->runB P E n nb0 ops masks p i l s tr k=some z->
  ∃(recs:List Rec) (trf:List TE),recs.length=l.length/\k trf=some z/\(∀x∈tr,x∈trf)/\
   (∀j r,recs[j]?=some r->(⟨i+j,r.rd,keys r.wr⟩:TE)∈trf\/(r.rd=[]/\r.wr=[]))/\
   ∀(j:Nat) (o:Oper) (r:Rec),l[j]?=some o->recs[j]?=some r->r.dst=o.dst/\((getN masks (i+j)).testBit p=false->sU P n nb0 ops (i+j) o r ((recs.take j).foldl St.put s))
 | [],i,s,tr,D,h=>⟨[],tr,rfl,h,λ_ h=>h,λj r h=>by simp at h,λj o r h=>by simp at h⟩
 | o::l,i,s,tr,D,h=>by
  simp only [aJ] at D;simp only [runB] at h;have more:∀(e:Rec) (d:List TE) (C:St),e.dst=o.dst->((getN masks i).testBit p=false->sU P n nb0 ops i o e s)->Eqv C (s.put e)->s.nb<=C.nb->(∀x∈tr,x∈d)->((⟨i,e.rd,keys e.wr⟩:TE)∈d\/(e.rd=[]/\e.wr=[]))->
    runB P E n nb0 ops masks p (i+1) l C d k=some z->∃(recs:List Rec) (trf:List TE),recs.length=(o::l).length/\k trf=some z/\(∀x∈tr,x∈trf)/\
   (∀j r,recs[j]?=some r->(⟨i+j,r.rd,keys r.wr⟩:TE)∈trf\/(r.rd=[]/\r.wr=[]))/\
   ∀(j:Nat) (F:Oper) (r:Rec),(o::l)[j]?=some F->recs[j]?=some r->r.dst=F.dst/\((getN masks (i+j)).testBit p=false->sU P n nb0 ops (i+j) F r ((recs.take j).foldl St.put s)):=by
   intro e d C S hl e2 V O R h;obtain ⟨recs,trf,g1,g2,X,g5,g6⟩:=HT Y l (i+1) C d (by omega) h;refine ⟨e::recs,trf,by simp [g1],g2,λx hx=>X x (O x hx),λj r m=>?_,λj F r N m=>?_⟩
   ·cases j with
    | zero=>simp only [kV,ak] at m;subst m;exact R.imp (X _) id
    | succ j=>have:=g5 j r (by simpa using m);rwa [show i+1+j=i+(j+1) by omega] at this
   ·cases j with
    | zero=>
     simp only [kV,ak] at N m;subst N m;exact ⟨S,hl⟩
    | succ j=>
     obtain ⟨p1,W⟩:=g6 j F r (by simpa using N) (by simpa using m);rw [show i+1+j=i+(j+1) by omega] at W;exact ⟨p1,λq=>(W q).eqv (by simpa using Eqv.puts (recs.take j) e2)⟩
  split at h
  ·rename_i y;exact more ⟨o.dst,none,[],[]⟩ tr (s.app o.dst none [] s.nb) rfl (λq=>by rw [y] at q;cases q) (Eqv.refl _) (aQ _) (λ_ h=>h) (.inr ⟨rfl,rfl⟩) h
  obtain ⟨G,I,h,u,hw⟩:=xi h;have c:I.nb=s.nb:=u.nb;cases G
  ·simp only at h;split at h
   case h_2=>cases h
   rename_i S;refine more ⟨o.dst,some (.tp []),[],[]⟩ tr (I.app o.dst (some (.tp [])) [] I.nb) rfl (λ_ s' J Z q3 q4 ι0 w0 ι a w B A K Q M=>?_) (u.put ⟨o.dst,some (.tp []),[],[]⟩) (vV c.symm) (λ_ h=>h) (.inr ⟨rfl,rfl⟩) h;rw [hw s' J n ι0 ι w0 a w B];simp only [bj,aE];exact M ι _ _ (λ_ _=>rfl) (B.skip S)
  ·simp only at h;rcases Af Y (by omega) h with ⟨val,wr,rd,g,U,f⟩ | ⟨v,wr,rd,U,f⟩
   ·refine more ⟨o.dst,val,wr,rd⟩ (⟨i,rd,keys wr⟩::tr) (I.app o.dst val wr I.nb) rfl (λ_ s' J Z q3 q4 ι0 w0 ι a w B A K Q M=>?_) (u.put ⟨o.dst,val,wr,rd⟩) (vV c.symm) (λx hx=>eS _ hx) (.inl (by simp [keys])) U;rw [hw s' J n ι0 ι w0 a w B];simp only [aI];refine f s' (vh λt ht=>by rw [J t ht,u.T]) (λb q=>by rw [Z b q,u.H]) (by rw [q3,c]) (by rw [q4,u.ro]) ι0 w0 ι a w B (by simpa using A) K Q λL a' w' z1 z2=>M L a' w' (by simpa using z1) z2
   ·cases U
theorem zw {α:Type} {E:List Ent} (hE:∀x∈E,ep P x) {n nb0:Nat} {ops:List Oper} {masks:List Nat} {k:St->List TE->Option α} {kp:Nat->V->St->List TE->Option α} {z:α}:∀(l:List Oper) (i:Nat) (s:St) (tr:List TE),
  nb0+8*(i+l.length)<=s.nb->runD P E n nb0 ops masks kp i l s tr k=some z->
  (∃(recs:List Rec) (d:St) (trf:List TE),recs.length=l.length/\k d trf=some z/\Eqv d (recs.foldl St.put s)/\(∀x∈tr,x∈trf)/\
   (∀j r,recs[j]?=some r->(⟨i+j,r.rd,keys r.wr⟩:TE)∈trf\/(r.rd=[]/\r.wr=[]))/\
   ∀(j:Nat) (o:Oper) (r:Rec),l[j]?=some o->recs[j]?=some r->r.dst=o.dst/\sU P n nb0 ops (i+j) o r ((recs.take j).foldl St.put s))\/
  (∃(p:Nat) (op:Oper) (recs:List Rec) (d:St) (J:St) (trf:List TE) (v:V) (wr:List (Nat×Blk)) (q:Rec),recs.length=l.length/\l[p]?=some op/\recs[p]?=some q/\q.dst=op.dst/\q.wr=[]/\J=d.app none none wr d.nb/\kp (i+p) v J trf=some z/\Eqv d ((recs.take p).foldl St.put s)/\(∀x∈tr,x∈trf)/\
   yh P n nb0 ops (i+p) op v wr q.rd ((recs.take p).foldl St.put s)/\
   (∀j r,recs[j]?=some r->j≠p->(⟨i+j,r.rd,keys r.wr⟩:TE)∈trf\/(r.rd=[]/\r.wr=[]))/\
   ∀(j:Nat) (o:Oper) (r:Rec),l[j]?=some o->recs[j]?=some r->r.dst=o.dst/\((j<p\/(p<j/\(getN masks (i+j)).testBit (i+p)=false))->sU P n nb0 ops (i+j) o r ((recs.take j).foldl St.put s)))
 | [],i,s,tr,W,h=>.inl ⟨[],s,tr,rfl,h,Eqv.refl s,λ_ h=>h,λj r h=>by simp at h,λj o r h=>by simp at h⟩
 | o::l,i,s,tr,W,h=>by
  simp only [aJ] at W;simp only [runD] at h;obtain ⟨Y,I,h,y,hw⟩:=xi h;have e:I.nb=s.nb:=y.nb;have more:∀(B:Rec) (A:List TE) (S:St),B.dst=o.dst->sU P n nb0 ops i o B s->Eqv S (s.put B)->s.nb<=S.nb->(∀x∈tr,x∈A)->((⟨i,B.rd,keys B.wr⟩:TE)∈A\/(B.rd=[]/\B.wr=[]))->
    runD P E n nb0 ops masks kp (i+1) l S A k=some z->
    (∃(recs:List Rec) (d:St) (trf:List TE),recs.length=(o::l).length/\k d trf=some z/\Eqv d (recs.foldl St.put s)/\(∀x∈tr,x∈trf)/\
   (∀j r,recs[j]?=some r->(⟨i+j,r.rd,keys r.wr⟩:TE)∈trf\/(r.rd=[]/\r.wr=[]))/\
   ∀(j:Nat) (f:Oper) (r:Rec),(o::l)[j]?=some f->recs[j]?=some r->r.dst=f.dst/\sU P n nb0 ops (i+j) f r ((recs.take j).foldl St.put s))\/
    (∃(p:Nat) (op:Oper) (recs:List Rec) (d:St) (J:St) (trf:List TE) (v:V) (wr:List (Nat×Blk)) (q:Rec),recs.length=(o::l).length/\(o::l)[p]?=some op/\recs[p]?=some q/\q.dst=op.dst/\q.wr=[]/\J=d.app none none wr d.nb/\kp (i+p) v J trf=some z/\Eqv d ((recs.take p).foldl St.put s)/\(∀x∈tr,x∈trf)/\
   yh P n nb0 ops (i+p) op v wr q.rd ((recs.take p).foldl St.put s)/\
   (∀j r,recs[j]?=some r->j≠p->(⟨i+j,r.rd,keys r.wr⟩:TE)∈trf\/(r.rd=[]/\r.wr=[]))/\
   ∀(j:Nat) (f:Oper) (r:Rec),(o::l)[j]?=some f->recs[j]?=some r->r.dst=f.dst/\((j<p\/(p<j/\(getN masks (i+j)).testBit (i+p)=false))->sU P n nb0 ops (i+j) f r ((recs.take j).foldl St.put s))):=by
   intro B A S hd hl M hnb2 htr hte h;rcases zw hE l (i+1) S A (by omega) h with ⟨recs,d,trf,R,N,g3,L,g5,g6⟩ | ⟨p,op,recs,d,J,trf,v,wr,q,R,g0,gr,gd,gw,gs,N,g3,L,g7,g5,g6⟩
   ·refine .inl ⟨B::recs,d,trf,by simp [R],N,g3.trans (Eqv.puts recs M),λx hx=>L x (htr x hx),λj r c=>?_,λj f r u c=>?_⟩
    ·cases j with
     | zero=>simp only [kV,ak] at c;subst c;exact hte.imp (L _) id
     | succ j=>have:=g5 j r (by simpa using c);rwa [show i+1+j=i+(j+1) by omega] at this
    ·cases j with
     | zero=>
      simp only [kV,ak] at u c;subst u c;exact ⟨hd,hl⟩
     | succ j=>
      obtain ⟨O,F⟩:=g6 j f r (by simpa using u) (by simpa using c);rw [show i+1+j=i+(j+1) by omega] at F;exact ⟨O,F.eqv (by simpa using Eqv.puts (recs.take j) M)⟩
   ·rw [show i+1+p=i+(p+1) by omega] at N g7;refine .inr ⟨p+1,op,B::recs,d,J,trf,v,wr,q,by simp [R],by simpa using g0,by simpa using gr,gd,gw,gs,N,g3.trans (by simpa using Eqv.puts (recs.take p) M),λx hx=>L x (htr x hx),g7.eqv (by simpa using Eqv.puts (recs.take p) M),λj r c X=>?_,λj f r u c=>?_⟩
    ·cases j with
     | zero=>simp only [kV,ak] at c;subst c;exact hte.imp (L _) id
     | succ j=>have:=g5 j r (by simpa using c) (by omega);rwa [show i+1+j=i+(j+1) by omega] at this
    ·cases j with
     | zero=>
      simp only [kV,ak] at u c;subst u c;exact ⟨hd,λ_=>hl⟩
     | succ j=>
      obtain ⟨O,F⟩:=g6 j f r (by simpa using u) (by simpa using c);rw [show i+1+j=i+(j+1) by omega,show i+1+p=i+(p+1) by omega] at F;exact ⟨O,λhc=>(F (hc.imp (λh=>by omega) λh=>⟨by omega,h.2⟩)).eqv (by simpa using Eqv.puts (recs.take j) M)⟩
  cases Y
  ·simp only at h;split at h
   case h_2=>cases h
   rename_i hd;refine more ⟨o.dst,some (.tp []),[],[]⟩ tr (I.app o.dst (some (.tp [])) [] I.nb) rfl (λs' G Z q3 q4 ι0 w0 ι a w D C K Q U=>?_) (y.put ⟨o.dst,some (.tp []),[],[]⟩) (vV e.symm) (λ_ h=>h) (.inr ⟨rfl,rfl⟩) h;rw [hw s' G n ι0 ι w0 a w D];simp only [bj,aE];exact U ι _ _ (λ_ _=>rfl) (D.skip hd)
  ·simp only at h;rcases Af hE (by omega) h with ⟨val,wr,rd,g,hk,m⟩ | ⟨v,wr,rd,hk,m⟩
   ·refine more ⟨o.dst,val,wr,rd⟩ (⟨i,rd,keys wr⟩::tr) (I.app o.dst val wr I.nb) rfl (λs' G Z q3 q4 ι0 w0 ι a w D C K Q U=>?_) (y.put ⟨o.dst,val,wr,rd⟩) (vV e.symm) (λx hx=>eS _ hx) (.inl (by simp [keys])) hk;rw [hw s' G n ι0 ι w0 a w D];simp only [aI];refine m s' (vh λt ht=>by rw [G t ht,y.T]) (λb hb=>by rw [Z b hb,y.H]) (by rw [q3,e]) (by rw [q4,y.ro]) ι0 w0 ι a w D (by simpa using C) K Q λι' a' w' z1 z2=>U ι' a' w' (by simpa using z1) z2
   ·obtain ⟨recs,trf,R,N,L,g5,g6⟩:=HT hE l (i+1) _ tr (by simp only [St.app];omega) hk;have M:Eqv (I.app o.dst none [] I.nb) (s.put ⟨o.dst,none,[],rd⟩):=y.put ⟨o.dst,none,[],rd⟩;refine .inr ⟨0,o,⟨o.dst,none,[],rd⟩::recs,I,_,trf,v,wr,⟨o.dst,none,[],rd⟩,by simp [R],rfl,rfl,rfl,rfl,rfl,N,y,L,λs' G Z q3 q4 ι0 w0 ι a w D C K Q U=>?_,λj r c X=>?_,λj f r u c=>?_⟩
    ·simp only [jU,Fp] at G Z q3 q4;exact ⟨hw s' G n ι0 ι w0 a w D,m s' (vh λt ht=>by rw [G t ht,y.T]) (λb hb=>by rw [Z b hb,y.H]) (by rw [q3,e]) (by rw [q4,y.ro]) ι0 w0 ι a w D (by simpa using C) K Q U⟩
    ·cases j with
     | zero=>exact absurd rfl X
     | succ j=>have:=g5 j r (by simpa using c);rwa [show i+1+j=i+(j+1) by omega] at this
    ·cases j with
     | zero=>
      simp only [kV,ak] at u c;subst u c;exact ⟨rfl,λh=>by omega⟩
     | succ j=>
      obtain ⟨O,F⟩:=g6 j f r (by simpa using u) (by simpa using c);rw [show i+1+j=i+(j+1) by omega] at F;refine ⟨O,λhc=>(F ?_).eqv (by simpa using Eqv.puts (recs.take j) M)⟩;rcases hc with hc | hc
      ·omega
      ·exact hc.2
def Down (ops:List Oper) (D:Nat->Bool):Prop:=∀j o e,ops[j]?=some o->D j=true->e∈o.after.toList->Region.binds .any e=true->D e.on=true
def Must (ops:List Oper) (i j:Nat):Prop:=∀D,Down ops D->D j=true->D i=true
def Dn (a:Array Bool):Nat->Bool:=λi=>a.getD i false
structure DrawFacts (P:Program) (n nb0:Nat) (ops:List Oper) (recs:List Rec) (s0:St) (live:Nat->Prop):Prop where
 len:recs.length=ops.length
 nb:s0.nb=nb0+8*ops.length
 loc:∀(j:Nat) (o:Oper) (r:Rec),ops[j]?=some o->recs[j]?=some r->(∀t,r.dst=some t->o.dst=some t)/\(live j->sU P n nb0 ops j o r (appD 0 recs (λm=>decide (m<j)) s0))
 down:∀(j:Nat) (o:Oper) (e:Edge),ops[j]?=some o->e∈o.after.toList->Region.binds .any e=true->e.on<j
 apart:∀(i j:Nat) (x y:Oper),i<j->ops[i]?=some x->ops[j]?=some y->Must ops i j\/x.apart ops.toArray y=true
 blk:∀(i j:Nat) (x y:Rec),i<j->recs[i]?=some x->recs[j]?=some y->Must ops i j\/((∀b∈keys x.wr,b∉y.rd/\b∉keys y.wr)/\∀b∈x.rd,b∉keys y.wr)
theorem rB {ops:List Oper} {a:Array Bool} {i:Nat} (hs:a.size=ops.length) (h:i∈Region.ready .any ops.toArray a):
  ∃o,ops[i]?=some o/\i<ops.length/\Dn a i=false/\∀e∈o.after.toList,Region.binds .any e=true->Dn a e.on=true:=by
 unfold Region.ready at h;simp only [lT,iH,aB,wx] at h;obtain ⟨b,c,d⟩:=h;have f:ops[i]?=some ops[i]:=by simp [b]
 refine ⟨ops[i],f,b,?_,λe j g=>?_⟩
 ·unfold Dn;have:i<a.size:=by omega
  simp only [oP,Q0 this,wg] at c ⊢;simpa using c
 ·simp only [List.getElem?_toArray,f,dU,wg] at d;have:=(Array.all_eq_true'.1 d) e (by simpa using j);simp only [g,cN,mY] at this;exact this
theorem zC {ops:List Oper} {a:Array Bool} {i:Nat} {o:Oper} (hs:a.size=ops.length) (d:ops[i]?=some o) (c:Dn a i=false)
  (h:∀e∈o.after.toList,Region.binds .any e=true->Dn a e.on=true):i∈Region.ready .any ops.toArray a:=by
 have hi:i<ops.length:=by
  rcases aF i ops.length with b | b
  ·exact b
  ·rw [fX b] at d;cases d
 unfold Region.ready;simp only [lT,iH,aB,wx];refine ⟨hi,?_,?_⟩
 ·have:i<a.size:=by omega
  unfold Dn at c;simp only [oP,Q0 this,wg] at c ⊢;simp [c]
 ·simp only [List.getElem?_toArray,d,dU,wg];refine Array.all_eq_true'.2 λe g=>?_;cases f:Region.binds .any e with
  | false=>rfl
  | true=>
   have:=h e (by simpa using g) f;unfold Dn at this;simpa using this
theorem xH {a:Array Bool} {i:Nat} (h:i<a.size) (j:Nat):Dn (a.setIfInBounds i true) j=if j=i then true else Dn a j:=by
 unfold Dn;simp only [oP];rw [P9];by_cases b:i=j
 ·subst b;simp [h]
 ·simp [b,show ¬j=i from λe=>b e.symm]
theorem Down.add {ops:List Oper} {D:Nat->Bool} (h:Down ops D) {i:Nat} {o:Oper} (Q:ops[i]?=some o) (U:∀e∈o.after.toList,Region.binds .any e=true->D e.on=true):
  Down ops λj=>if j=i then true else D j:=by
 intro j O e E J G F;show (if e.on=i then true else D e.on)=true;by_cases C:j=i
 ·subst C;rw [Q] at E;cases E;have:=U e G F;split
  ·rfl
  ·exact this
 ·simp only [C,aE] at J;have:=h j O e E J G F;split
  ·rfl
  ·exact this
theorem Must.in {ops:List Oper} {D:Nat->Bool} (h:Down ops D) {i k:Nat} {o:Oper} (F:ops[i]?=some o) (G:∀e∈o.after.toList,Region.binds .any e=true->D e.on=true)
  (E:Must ops k i) (C:k≠i):D k=true:=by
 have:=E _ (h.add F G) (by simp);simpa [C] using this
section
variable {n nb0:Nat} {ops:List Oper} {recs:List Rec} {s0:St} {live:Nat->Prop} (F:DrawFacts P n nb0 ops recs s0 live)
include F
theorem vk {i:Nat} {o:Oper} (h:ops[i]?=some o):∃r,recs[i]?=some r:=by
 have hi:i<ops.length:=by
  rcases aF i ops.length with a | a
  ·exact a
  ·rw [fX a] at h;cases h
 exact ⟨recs[i]'(by rw [F.len];exact hi),by simp [F.len,hi]⟩
theorem vP {i:Nat} {r:Rec} (h:recs[i]?=some r):∃o,ops[i]?=some o:=by
 have hi:i<recs.length:=by
  rcases aF i recs.length with a | a
  ·exact a
  ·rw [fX a] at h;cases h
 exact ⟨ops[i]'(by rw [<-F.len];exact hi),by simp [F.len▸hi]⟩
theorem zB {D:Nat->Bool} (u:Down ops D) {i:Nat} {o:Oper} (p:ops[i]?=some o) (s:D i=false) (x:∀e∈o.after.toList,Region.binds .any e=true->D e.on=true)
  {t:Nat} (q:t∈o.looksAt ops.toArray):look (appD 0 recs D s0).T t=look (appD 0 recs (λm=>decide (m<i)) s0).T t:=by
 rw [xE,xE];refine qR recs 0 _ _ t _ λj r v w=>?_;simp only [cj];obtain ⟨h,c⟩:=vP F v;have a:=((F.loc j h r c v).1 t w).symm;rcases C9 j i with d | l | k
 ·have n:D j=true:=by
   rcases F.apart j i h o d c p with f | b
   ·exact f.in u p x (by omega)
   ·exact absurd q ((Cb b).1 t a.symm)
  rw [n];simp [d]
 ·subst l;simp [s]
 ·have n:D j=false:=by
   rcases F.apart i j o h k p c with f | b
   ·cases g:D j with
    | false=>rfl
    | true=>have:=f D u g;rw [s] at this;cases this
   ·exact absurd q ((Cb b).2.2 t a.symm)
  rw [n];simp;omega
theorem yI {D:Nat->Bool} (t:Down ops D) {i:Nat} {o:Oper} {r:Rec} (v:ops[i]?=some o) (n:recs[i]?=some r) (l:D i=false)
  (w:∀e∈o.after.toList,Region.binds .any e=true->D e.on=true) {b:Nat} (q:b∈r.rd):look (appD 0 recs D s0).H b=look (appD 0 recs (λm=>decide (m<i)) s0).H b:=by
 rw [vI,vI];refine nX recs 0 _ _ b _ λj p u s=>?_;simp only [cj];rcases C9 j i with c | h | g
 ·have k:D j=true:=by
   rcases F.blk j i p r c u n with d | a
   ·exact d.in t v w (by omega)
   ·exact absurd q (a.1 b s).1
  rw [k];simp [c]
 ·subst h;simp [l]
 ·have k:D j=false:=by
   rcases F.blk i j r p g n u with d | a
   ·cases f:D j with
    | false=>rfl
    | true=>have:=d D t f;rw [l] at this;cases this
   ·exact absurd s (a.2 b q)
  rw [k];simp;omega
theorem zy {D:Nat->Bool} (z:Down ops D) {i:Nat} {o:Oper} {r:Rec} (A:ops[i]?=some o) (f:recs[i]?=some r) (C:D i=false):
  Eqv ((appD 0 recs D s0).put r) (appD 0 recs (λj=>if j=i then true else D j) s0):=by
 have h:=(F.loc i o r A f).1;refine ⟨λt=>?_,λb=>?_,by rw [SJ,ko,ko],by show (appD 0 recs D s0).lo=_;rw [vX,vX],by show (appD 0 recs D s0).ro=_;rw [ia,ia],by show (appD 0 recs D s0).rb=_;rw [vN,vN]⟩
 ·rw [LK,xE,xE];by_cases l:r.dst=some t
  ·rw [ae l];symm;refine Eg recs 0 i _ t _ r f (by simp) l λk m x c q=>?_;simp only [cj,show ¬k=i by omega,aE];obtain ⟨ok,g⟩:=vP F c;have u:=(F.loc k ok m g c).1;rcases F.apart i k o ok x A g with s | d
   ·cases e:D k with
    | false=>rfl
    | true=>have:=s D z e;rw [C] at this;cases this
   ·exact absurd (u t q) ((Cb d).2.1 t (h t l))
  ·rw [ab l];refine qR recs 0 _ _ t _ λj m p y=>?_;simp only [cj];by_cases a:j=i
   ·subst a;rw [f] at p;cases p;exact absurd y l
   ·simp [a]
 ·rw [Lr,vI,vI];by_cases n:b∈keys r.wr
  ·obtain ⟨v,B⟩:=pV n;rw [B,Option.some_or];symm;rw [<-B];refine EG recs 0 i _ b _ r f (by simp) n λk m x c w=>?_;simp only [cj,show ¬k=i by omega,aE];rcases F.blk i k r m x f c with s | d
   ·cases e:D k with
    | false=>rfl
    | true=>have:=s D z e;rw [C] at this;cases this
   ·exact absurd w (d.1 b n).2
  ·rw [pC n,Ci];refine nX recs 0 _ _ b _ λj m p w=>?_;simp only [cj];by_cases a:j=i
   ·subst a;rw [f] at p;cases p;exact absurd w n
   ·simp [a]
theorem BG {kk:Nat} (y:∀j,kk<=j->j<ops.length->live j) {ι0:Inj} {w0:Base} {Q:Exit->Act->World->Prop} (S:∀ι a w,Inv n ι0 w0 ι (recs.foldl St.put s0) a w->Q .normal a w):
  ∀(fuel:Nat) (c:Array Bool) (ι:Inj) (a:Act) (w:World),c.size=ops.length->(∀j,j<kk->Dn c j=true)->Down ops (Dn c)->Inv n ι0 w0 ι (appD 0 recs (Dn c) s0) a w->
   (∀i,i<ops.length->Dn c i=false->∀b,nb0+8*i<=b->b<nb0+8*i+8->ι b=none)->((List.range ops.length).filter λi=>!Dn c i).length<=fuel->
   wpAny P .any ops.toArray Q fuel c a w:=by
 have B:∀(c:Array Bool) (ι:Inj) (a:Act) (w:World),c.size=ops.length->Inv n ι0 w0 ι (appD 0 recs (Dn c) s0) a w->Region.ready .any ops.toArray c=[]->Q .normal a w:=by
  intro c ι a w hs s m;have C:∀j,j<ops.length->Dn c j=true:=by
   intro j
   induction j using Nat.strongRecOn with
   | _ j ih=>
    intro v;cases K:Dn c j with
    | true=>rfl
    | false=>
     have f:ops[j]?=some ops[j]:=by simp [v]
     have N:=zC hs f K λe O E=>ih e.on (F.down j _ e f O E) (by have:=F.down j _ e f O E;omega);rw [m] at N;cases N
  rw [zt recs 0 (Dn c) s0 λj v=>by simpa using C j (by rw [<-F.len];exact v)] at s;exact S ι a w s
 intro fuel
 induction fuel with
 | zero=>
  intro c ι a w hs x A s q hc;have m:Region.ready .any ops.toArray c=[]:=by
   rw [List.eq_nil_iff_forall_not_mem];intro i hi;obtain ⟨o,f,g,p,_⟩:=rB hs hi;have:i∈(List.range ops.length).filter λi=>!Dn c i:=by simp [g,p]
   have:=H4 this;omega
  exact ⟨m,B c ι a w hs s m⟩
 | succ fuel ih=>
  intro c ι a w hs x A s q hc;refine ⟨B c ι a w hs s,λi hi=>?_⟩;obtain ⟨o,f,g,p,M⟩:=rB hs hi;obtain ⟨r,m⟩:=vk F f;have z:=(F.loc i o r f m).2 (y i (by rcases aF i kk with h | h;(· have:=x i h;rw [p] at this;cases this);exact h) g);have d:Dn (c.setIfInBounds i true)=λj=>if j=i then true else Dn c j:=by
   funext j;exact xH (by omega) j
  have G:=z (appD 0 recs (Dn c) s0) (λt U=>zB F A f p M U) (λb E=>yI F A f m p M E) (by rw [ko,ko]) (by rw [ia,ia]) ι0 w0 ι a w s (q i g p)
   (wpAny P .any ops.toArray Q fuel (c.setIfInBounds i true)) Q λI T w' R V=>by
    refine ih _ I T w' (by simpa using hs) (λj v=>by rw [d];simp only;split;(· rfl);exact x j v) (by rw [d];exact A.add f M) (by rw [d];exact V.eqv (zy F A f m p)) (λj v l b J L=>?_) ?_
    ·rw [d] at l;by_cases k:j=i
     ·simp [k] at l
     ·simp only [k,aE] at l;rw [R b (by omega)];exact q j v l b J L
    ·have:((List.range ops.length).filter λj=>!Dn (c.setIfInBounds i true) j).length<((List.range ops.length).filter λj=>!Dn c j).length:=by
      rw [d];have D:((List.range ops.length).filter λj=>!(if j=i then true else Dn c j))=((List.range ops.length).filter λj=>!Dn c j).filter λj=>decide (j≠i):=by
       rw [Ez];congr 1;funext j;by_cases k:j=i<;>simp [k]
      rw [D];refine D7.2 ⟨i,by simp [g,p],by simp⟩
     omega
  unfold wpOp;have H:ops.toArray[i]?=some o:=by simpa using f
  rw [H];simp only;split
  ·rename_i u;rw [ae u] at G;exact .inl G
  ·rename_i u;rw [ab u] at G;exact G
theorem MA {lim kk:Nat} (E:lim<ops.length) (g:∀j,kk<=j->j<lim->live j/\Must ops j lim) (v:∀j,lim<j->j<ops.length->Must ops lim j) {ι0:Inj} {w0:Base} {Q:Exit->Act->World->Prop}
  (W:∀(fuel:Nat) (c:Array Bool) (ι:Inj) (a:Act) (w:World),c.size=ops.length->(∀j,j<lim->Dn c j=true)->Dn c lim=false->Down ops (Dn c)->Down ops (Dn (c.setIfInBounds lim true))->
   Inv n ι0 w0 ι (appD 0 recs (Dn c) s0) a w->((List.range ops.length).filter λi=>!Dn c i).length<=fuel+1->wpOp P ops.toArray Q lim (wpAny P .any ops.toArray Q fuel (c.setIfInBounds lim true)) a w):
  ∀(fuel:Nat) (c:Array Bool) (ι:Inj) (a:Act) (w:World),c.size=ops.length->(∀j,j<kk->Dn c j=true)->Down ops (Dn c)->Dn c lim=false->Inv n ι0 w0 ι (appD 0 recs (Dn c) s0) a w->
   (∀i,i<ops.length->Dn c i=false->∀b,nb0+8*i<=b->b<nb0+8*i+8->ι b=none)->((List.range ops.length).filter λi=>!Dn c i).length<=fuel->
   wpAny P .any ops.toArray Q fuel c a w:=by
 have M:∀(c:Array Bool),c.size=ops.length->Dn c lim=false->Region.ready .any ops.toArray c=[]->False:=by
  intro c hs hp s;have C:∀j,j<ops.length->Dn c j=true:=by
   intro j
   induction j using Nat.strongRecOn with
   | _ j ih=>
    intro y;cases O:Dn c j with
    | true=>rfl
    | false=>
     have f:ops[j]?=some ops[j]:=by simp [y]
     have T:=zC hs f O λe U H=>ih e.on (F.down j _ e f U H) (by have:=F.down j _ e f U H;omega);rw [s] at T;cases T
  rw [C lim E] at hp;cases hp
 intro fuel
 induction fuel with
 | zero=>
  intro c ι a w hs p k hp J q hc;have:lim∈(List.range ops.length).filter λi=>!Dn c i:=by simp [E,hp]
  have:=H4 this;omega
 | succ fuel ih=>
  intro c ι a w hs p k hp J q hc;refine ⟨λs=>(M c hs hp s).elim,λi hi=>?_⟩;obtain ⟨o,f,x,z,A⟩:=rB hs hi;obtain ⟨r,s⟩:=vk F f;have d:Dn (c.setIfInBounds i true)=λj=>if j=i then true else Dn c j:=by
   funext j;exact xH (by omega) j
  by_cases D:i=lim
  ·subst D;refine W fuel c ι a w hs (λj y=>?_) z k (by rw [d];exact k.add f A) J hc;rcases aF j kk with h | h
   ·exact p j h
   ·exact (g j h y).2.in k f A (by omega)
  have K:ops.toArray[i]?=some o:=by simpa using f
  unfold wpOp;rw [K];simp only;have hlt':i<lim:=by
   rcases aF i lim with h | h
   ·exact h
   ·have:=(v i (by omega) x).in k f A (λe=>D e.symm);rw [hp] at this;cases this
  have S:kk<=i:=by
   rcases aF i kk with h | h
   ·have:=p i h;rw [z] at this;cases this
   ·exact h
  have B:=(F.loc i o r f s).2 (g i S hlt').1
  have I:=B (appD 0 recs (Dn c) s0) (λt Y=>zB F k f z A Y) (λb H=>yI F k f s z A H) (by rw [ko,ko]) (by rw [ia,ia]) ι0 w0 ι a w J (q i x z)
   (wpAny P .any ops.toArray Q fuel (c.setIfInBounds i true)) Q λL X w' V Z=>by
    refine ih _ L X w' (by simpa using hs) (λj y=>by rw [d];simp only;split;(· rfl);exact p j y) (by rw [d];exact k.add f A) (by rw [d];simp only [show ¬lim=i by omega,aE];exact hp) (by rw [d];exact Z.eqv (zy F k f s z)) (λj y m b N R=>?_) ?_
    ·rw [d] at m;by_cases l:j=i
     ·simp [l] at m
     ·simp only [l,aE] at m;rw [V b (by omega)];exact q j y m b N R
    ·have:((List.range ops.length).filter λj=>!Dn (c.setIfInBounds i true) j).length<((List.range ops.length).filter λj=>!Dn c j).length:=by
      rw [d];have G:((List.range ops.length).filter λj=>!(if j=i then true else Dn c j))=((List.range ops.length).filter λj=>!Dn c j).filter λj=>decide (j≠i):=by
       rw [Ez];congr 1;funext j;by_cases l:j=i<;>simp [l]
      rw [G];refine D7.2 ⟨i,by simp [x,z],by simp⟩
     omega
  split
  ·rename_i u;rw [ae u] at I;exact .inl I
  ·rename_i u;rw [ab u] at I;exact I
theorem NB {lim:Nat} {ι0:Inj} {w0:Base} {Q:Exit->Act->World->Prop} {W:Oper} {pr:Rec} {v:V} {wr:List (Nat×Blk)} (g:ops[lim]?=some W) (G:recs[lim]?=some pr)
  (O:yh P n nb0 ops lim W v wr pr.rd (appD 0 recs (λm=>decide (m<lim)) s0))
  (A:∀j,j<ops.length->j≠lim->live j\/Must ops lim j)
  (hQ:∀D,Down ops D->(∀e∈W.after.toList,Region.binds .any e=true->D e.on=true)->D lim=false->∀ι x a w,VR ι v x->Inv n ι0 w0 ι ((appD 0 recs D s0).app none none wr s0.nb) a w->Q (.panic [{ v:=x,recovered:=false }]) a w):
  ∀(fuel:Nat) (c:Array Bool) (ι:Inj) (a:Act) (w:World),c.size=ops.length->Down ops (Dn c)->Dn c lim=false->Inv n ι0 w0 ι (appD 0 recs (Dn c) s0) a w->
   (∀i,i<ops.length->Dn c i=false->∀b,nb0+8*i<=b->b<nb0+8*i+8->ι b=none)->((List.range ops.length).filter λi=>!Dn c i).length<=fuel->
   wpAny P .any ops.toArray Q fuel c a w:=by
 have J:lim<ops.length:=by
  rcases aF lim ops.length with R | R
  ·exact R
  ·rw [fX R] at g;cases g
 have X:∀(c:Array Bool),c.size=ops.length->Dn c lim=false->Region.ready .any ops.toArray c=[]->False:=by
  intro c hs hp p;have I:∀j,j<ops.length->Dn c j=true:=by
   intro j
   induction j using Nat.strongRecOn with
   | _ j ih=>
    intro hj;cases hDj:Dn c j with
    | true=>rfl
    | false=>
     have f:ops[j]?=some ops[j]:=by simp [hj]
     have L:=zC hs f hDj λe he E=>ih e.on (F.down j _ e f he E) (by have:=F.down j _ e f he E;omega);rw [p] at L;cases L
  rw [I lim J] at hp;cases hp
 intro fuel
 induction fuel with
 | zero=>
  intro c ι a w hs k hp S h hc;have:lim∈(List.range ops.length).filter λi=>!Dn c i:=by simp [J,hp]
  have:=H4 this;omega
 | succ fuel ih=>
  intro c ι a w hs k hp S h hc;refine ⟨λp=>(X c hs hp p).elim,λi hi=>?_⟩;obtain ⟨o,f,s,u,C⟩:=rB hs hi;obtain ⟨r,p⟩:=vk F f;have T:ops.toArray[i]?=some o:=by simpa using f
  unfold wpOp;rw [T];simp only;by_cases B:i=lim
  case neg=>
   rcases A i s B with hlv | L
   case inr=>
    have:=L.in k f C (λe=>B e.symm);rw [hp] at this;cases this
   have H:=(F.loc i o r f p).2 hlv;have d:Dn (c.setIfInBounds i true)=λj=>if j=i then true else Dn c j:=by
    funext j;exact xH (by omega) j
   have N:=H (appD 0 recs (Dn c) s0) (λt Z=>zB F k f u C Z) (λb E=>yI F k f p u C E) (by rw [ko,ko]) (by rw [ia,ia]) ι0 w0 ι a w S (h i s u)
    (wpAny P .any ops.toArray Q fuel (c.setIfInBounds i true)) Q λy a' w' U M=>by
     refine ih _ y a' w' (by simpa using hs) (by rw [d];exact k.add f C) (by rw [d];simp only [show ¬lim=i by omega,aE];exact hp) (by rw [d];exact M.eqv (zy F k f p u)) (λj hj q b Y hb2=>?_) ?_
     ·rw [d] at q;by_cases l:j=i
      ·simp [l] at q
      ·simp only [l,aE] at q;rw [U b (by omega)];exact h j hj q b Y hb2
     ·have:((List.range ops.length).filter λj=>!Dn (c.setIfInBounds i true) j).length<((List.range ops.length).filter λj=>!Dn c j).length:=by
       rw [d];have K:((List.range ops.length).filter λj=>!(if j=i then true else Dn c j))=((List.range ops.length).filter λj=>!Dn c j).filter λj=>decide (j≠i):=by
        rw [Ez];congr 1;funext j;by_cases l:j=i<;>simp [l]
       rw [K];refine D7.2 ⟨i,by simp [s,u],by simp⟩
      omega
   split
   ·rename_i z;rw [ae z] at N;exact .inl N
   ·rename_i z;rw [ab z] at N;exact N
  case pos=>
   subst B;rw [g] at f;cases f;rw [G] at p;cases p
   obtain ⟨q1,q2⟩:=O (appD 0 recs (Dn c) s0) (λt Z=>zB F k g u C Z) (λb E=>yI F k g G u C E) (by rw [ko,ko]) (by rw [ia,ia]) ι0 w0 ι a w S (h i s u)
    (wpAny P .any ops.toArray Q fuel (c.setIfInBounds i true)) Q λy x w' U M=>hQ _ k C u y x a w' U (by rw [ko] at M;exact M)
   rw [ae q1];exact .inl q2
end
theorem BD:∀{l:List Nat} {j:Nat},l.length<=j->getN l j=0
 | [],_,_=>rfl
 | _::_,0,h=>by simp at h
 | _::l,j+1,h=>BD (l:=l) (by simpa using h)
theorem qt:∀{l m:List Nat} {j:Nat},j<l.length->getN (l++m) j=getN l j
 | [],_,_,h=>by simp at h
 | _::_,_,0,_=>rfl
 | _::l,m,j+1,h=>qt (l:=l) (m:=m) (by simpa using h)
theorem qo:∀(l:List Nat) (x:Nat),getN (l++[x]) l.length=x
 | [],_=>rfl
 | _::l,x=>qo l x
theorem qV (b:List Nat):∀(l:List Edge) (s i:Nat),(Ao b l s).testBit i=true->s.testBit i=true\/∃e∈l,Region.binds .any e=true/\(e.on=i\/(getN b e.on).testBit i=true)
 | [],s,i,h=>.inl h
 | e::l,s,i,h=>by
  simp only [Ao] at h;split at h
  ·rename_i g;rcases qV b l _ i h with a | ⟨d,c,f⟩
   ·simp only [Nat.testBit_or,f8] at a;rcases a with (a | a) | a
    ·exact .inl a
    ·refine .inr ⟨e,by simp,g,.inl ?_⟩;rw [Nat.testBit_two_pow] at a;simpa using a
    ·exact .inr ⟨e,by simp,g,.inr a⟩
   ·exact .inr ⟨d,eS _ c,f⟩
  ·rcases qV b l _ i h with a | ⟨d,c,f⟩
   ·exact .inl a
   ·exact .inr ⟨d,eS _ c,f⟩
theorem nO (ops:List Oper):∀(r:List Oper) (a:List Nat),(∀j,r[j]?=ops[a.length+j]?)->(∀j i,(getN a j).testBit i=true->Must ops i j)->
  ∀j i,(getN (jz r a) j).testBit i=true->Must ops i j
 | [],a,_,h=>h
 | o::r,a,l,h=>by
  simp only [jz];refine nO ops r _ (λj=>by have:=l (j+1);simp only [EO] at this;rw [this];simp;congr 1;omega) λj i b=>?_;rcases C9 j a.length with d | k | p
  ·rw [qt d] at b;exact h j i b
  ·subst k;rw [qo] at b;have s:ops[a.length]?=some o:=by have:=l 0;simpa using this.symm
   rcases qV a _ _ _ b with c | ⟨e,q,g,c⟩
   ·simp at c
   ·intro D m f;have n:=m a.length o e s f q g;rcases c with rfl | c
    ·exact n
    ·exact h e.on i c D m n
  ·rw [BD (by simp;omega)] at b;simp at b
theorem iR:∀(l:List Oper) (i:Nat),oO i l=true->∀(j:Nat) (o:Oper) (e:Edge),l[j]?=some o->e∈o.after.toList->Region.binds .any e=true->e.on<i+j
 | [],_,_,_,_,_,h,_,_=>by simp at h
 | o::l,i,h,j,d,e,a,b,c=>by
  simp only [oO,aB,bG] at h;cases j with
  | zero=>
   simp only [kV,ak] at a;subst a;have:=h.1 e b;simp only [c,cN,mY] at this;exact aG this
  | succ j=>have:=iR l (i+1) h.2 j d e (by simpa using a) b c;omega
theorem qy {ops:Array Oper} {o:Oper} {a:Nat}:∀(l:List Oper) (i:Nat),rG ops o a i l=true->∀(j:Nat) (p:Oper),l[j]?=some p->a.testBit (i+j)=true\/p.apart ops o=true
 | [],_,_,_,_,h=>by simp at h
 | q::l,i,h,j,p,b=>by
  simp only [rG,aB,f8] at h;cases j with
  | zero=>simp only [kV,ak] at b;subst b;exact h.1
  | succ j=>have:=qy l (i+1) h.2 j p (by simpa using b);rwa [show i+1+j=i+(j+1) by omega] at this
theorem lD {ops:Array Oper} {masks:List Nat}:∀(l a:List Oper),r7 ops masks a.length a l=true->∀(i j:Nat) (x y:Oper),i<a.length+j->(a++l)[i]?=some x->l[j]?=some y->
  (getN masks (a.length+j)).testBit i=true\/x.apart ops y=true
 | [],_,_,_,_,_,_,_,_,h=>by simp at h
 | o::l,a,h,i,j,x,y,hi,hx,hy=>by
  simp only [r7,aB] at h;cases j with
  | zero=>
   simp only [kV,ak] at hy;subst hy;have:=qy a 0 h.1 i x (by rw [mg (by simpa using hi)] at hx;exact hx);simpa using this
  | succ j=>
   have b:=h.2;rw [show a.length+1=(a++[o]).length by simp] at b;have:=lD l (a++[o]) b i j x y (by simp;omega) (by simpa using hx) (by simpa using hy);rwa [show (a++[o]).length+j=a.length+(j+1) by simp;omega] at this
theorem pD {masks:List Nat}:∀{tr:List TE},n9 masks tr=true->∀x∈tr,∀y∈tr,x.i<y.i->wb masks x y=true\/wb masks y x=true
 | [],_,x,hx,_,_,_=>by cases hx
 | z::l,h,x,hx,y,hy,c=>by
  simp only [n9,aB,bG] at h;rcases cf.1 hx with b | b
  ·subst b;rcases cf.1 hy with a | a
   ·subst a;omega
   ·exact .inl (h.1 y a)
  ·rcases cf.1 hy with a | a
   ·subst a;exact .inr (h.1 x b)
   ·exact pD h.2 x b y a c
theorem uB {x y:TE} (h:QF x y=false):(∀b∈x.ws,b∉y.rd/\b∉y.ws)/\∀b∈x.rd,b∉y.ws:=by
 simp only [QF,mW,qk,f8,not_or,List.contains_iff_mem] at h;exact ⟨λb a=>h.1 b a,λb a=>h.2 b a⟩
theorem An {masks:List Nat} {x y:TE} (h:wb masks x y=true\/wb masks y x=true) (d:x.i<y.i):
  (getN masks y.i).testBit x.i=true\/((∀b∈x.ws,b∉y.rd/\b∉y.ws)/\∀b∈x.rd,b∉y.ws):=by
 have j:Nat.blt x.i y.i=true:=cG d;have k:Nat.blt y.i x.i=false:=by
  cases g:Nat.blt y.i x.i with
  | false=>rfl
  | true=>have:y.i<x.i:=aG g;omega
 rcases h with h | h
 ·simp only [wb,j,aj,f8,kU] at h;exact h.imp id uB
 ·simp only [wb,k,af,f8,kU] at h;refine h.imp id λh=>?_;obtain ⟨a,b⟩:=uB h;exact ⟨λc hc=>⟨λf=>b c f hc,λe=>(a c e).2 hc⟩,λc hc e=>(a c e).1 hc⟩
theorem sO:∀(ops:List Oper) {T:List (Nat×Option V)} (t:Nat) (v:V),look (F5 ops T) t=some (some v)->(∀o∈ops,o.dst≠some t)/\look T t=some (some v)
 | [],T,t,v,h=>⟨by simp,h⟩
 | o::l,T,t,v,h=>by
  simp only [F5] at h;split at h
  ·rename_i d f;rw [aN] at h;split at h
   ·cases h
   ·rename_i a;obtain ⟨b,c⟩:=sO l t v h;refine ⟨λx hx=>?_,c⟩;rcases cf.1 hx with rfl | hx
    ·rw [f];intro e;cases e;exact a rfl
    ·exact b x hx
  ·rename_i f;obtain ⟨b,c⟩:=sO l t v h;refine ⟨λx hx=>?_,c⟩;rcases cf.1 hx with rfl | hx
   ·rw [f];intro e;cases e
   ·exact b x hx
theorem GM {α:Type} {E:List Ent} (hE:∀x∈E,ep P x) {n:Nat} {ops:List Oper} {s:St} {k:Ex->St->Option α} {z:α} (h:Da P E n ops s k=some z) (id:Nat):
  SemC P n (.region id ops.toArray true) s λex s'=>k ex s'=some z:=by
 intro ι0 w0 ι a w hI;unfold Da at h;split at h
 case h_2=>cases h
 rename_i hok;simp only [aB,E5] at hok;obtain ⟨⟨hb1,hb2,_⟩,R⟩:=hok;have g:=nO ops ops [] (by simp) (λj i u=>by simp [getN] at u);have hI1:Inv n ι0 w0 ι { s with nb:=s.nb+8*ops.length } a { w with drawn:=w.drawn+1 }:=by
  have d:=hI.drawn (w.drawn+1);exact ⟨d.size,d.defers,d.tmps,⟨d.mem.inj,λb r u=>by have:=d.mem.low b r u;simp only;omega,d.mem.dom,d.mem.blk⟩,d.ext,d.new,d.fr,d.low,d.fz,d.gl⟩
 have G:∀i,Dn (Array.replicate ops.toArray.size false) i=false:=by
  intro i;unfold Dn;simp only [oP,R2];split<;>rfl
 have hno:∀(l:List Rec) (i:Nat) (D:Nat->Bool) (s:St),(∀j,D j=false)->appD i l D s=s:=by
  intro l
  induction l with
  | nil=>intros;rfl
  | cons r l ih=>intro i D s hD;simp only [appD,hD i,bj,aE];exact ih _ D s hD
 have C:∀(trf:List TE) (x y:Rec) (i j:Nat),n9 (jz ops []) (trf.filter λx=>!(x.rd.isEmpty&&x.ws.isEmpty))=true->i<j->((⟨0+i,x.rd,keys x.wr⟩:TE)∈trf\/(x.rd=[]/\x.wr=[]))->((⟨0+j,y.rd,keys y.wr⟩:TE)∈trf\/(y.rd=[]/\y.wr=[]))->
   Must ops i j\/((∀b∈keys x.wr,b∉y.rd/\b∉keys y.wr)/\∀b∈x.rd,b∉keys y.wr):=by
  intro trf x y i j M B hx hy;rcases hx with hxm | ⟨hx1,hx2⟩
  ·rcases hy with hym | ⟨hy1,hy2⟩
   ·simp only [cj] at hxm hym;by_cases he1:(x.rd=[]/\x.wr=[])
    ·exact .inr (by simp [he1.1,he1.2,keys])
    ·by_cases X:(y.rd=[]/\y.wr=[])
     ·exact .inr (by simp [X.1,X.2,keys])
     ·have m1:(⟨i,x.rd,keys x.wr⟩:TE)∈trf.filter λx=>!(x.rd.isEmpty&&x.ws.isEmpty):=by
       refine lT.2 ⟨hxm,?_⟩;simp only [keys,kU,BJ,EP];rcases EM (x.rd=[]) with h | h
       ·exact .inr (by simpa using λhw=>he1 ⟨h,hw⟩)
       ·exact .inl h
      have m2:(⟨j,y.rd,keys y.wr⟩:TE)∈trf.filter λx=>!(x.rd.isEmpty&&x.ws.isEmpty):=by
       refine lT.2 ⟨hym,?_⟩;simp only [keys,kU,BJ,EP];rcases EM (y.rd=[]) with h | h
       ·exact .inr (by simpa using λhw=>X ⟨h,hw⟩)
       ·exact .inl h
      have:=An (pD M _ m1 _ m2 B) B;exact this.imp (g j i) λh=>h
   ·exact .inr (by simp [hy1,hy2,keys])
  ·exact .inr (by simp [hx1,hx2,keys])
 rcases zw hE ops 0 _ [] (by simp) h with ⟨recs,Q,trf,g1,S,O,_,g5,g6⟩ | ⟨p,po,recs,Q,sp,trf,v,wr,rp,g1,g0,gr,gd,gw,rfl,S,O,_,g7,g5,g6⟩
 ·split at S
  case h_2=>cases S
  rename_i M;have F:DrawFacts P n s.nb ops recs { s with nb:=s.nb+8*ops.length } (λ_=>True):=by
   refine ⟨g1,rfl,λj o r N V=>?_,λj o e N he u=>?_,λi j x y B hx hy=>?_,λi j x y B hx hy=>?_⟩
   ·obtain ⟨p1,p2⟩:=g6 j o r N V;simp only [cj] at p2;have e:=pm recs 0 j { s with nb:=s.nb+8*ops.length };simp only [cj] at e;exact ⟨λt W=>p1▸W,λ_=>p2.eqv e⟩
   ·have:=iR ops 0 hb1 j o e N he u;omega
   ·have:=lD (masks:=jz ops []) ops [] hb2 i j x y (by simpa using B) (by simpa using hx) hy;simp only [dm,cj] at this;exact this.imp (g j i) λh=>h
   ·exact C trf x y i j M B (g5 i x hx) (g5 j y hy)
  refine wp_region_any R (BG (kk:=0) F (λ_ _ _=>trivial) (λI a' w' f=>⟨.normal,Q,I,rfl,f.eqv O.symm,S⟩) _ _ ι a _ (by simp) (λj Z=>by omega) (λj o e _ L=>by rw [G j] at L;cases L) (by rw [hno recs 0 _ _ G];exact hI1) (λi _ _ b u _=>?_) ?_)
  ·exact hI.fresh b (by omega)
  ·have:=HV (λi=>!Dn (Array.replicate ops.toArray.size false) i) (List.range ops.length);simpa using this
 ·split at S
  case h_2=>cases S
  rename_i hpk;simp only [aB,Rj] at hpk;obtain ⟨hw,M⟩:=hpk;simp only [cj] at S g7 hw;have B:p<ops.length:=by
   rcases aF p ops.length with h' | h'
   ·exact h'
   ·rw [fX h'] at g0;cases g0
  have A:∀i r,recs[i]?=some r->i≠p->(i<p/\Must ops i p)\/r.wr=[]:=by
   intro i r V J;rcases g5 i r V J with hx | hx
   ·have:=(bG.1 hw) _ hx;simp only [cj,f8,aB] at this;rcases this with h | h
    ·right;simpa [keys] using h
    ·exact .inl ⟨aG h.1,g p i h.2⟩
   ·exact .inr hx.2
  have g5':∀(j:Nat) (r:Rec),recs[j]?=some r->j≠p->(⟨0+j,r.rd,keys r.wr⟩:TE)∈trf\/(r.rd=[]/\r.wr=[]):=g5;have F:DrawFacts P n s.nb ops recs { s with nb:=s.nb+8*ops.length } (λj=>j<p\/(p<j/\(getN (jz ops []) (0+j)).testBit (0+p)=false)):=by
   refine ⟨g1,rfl,λj o r N V=>?_,λj o e N he u=>?_,λi j x y U hx hy=>?_,λi j x y U hx hy=>?_⟩
   ·obtain ⟨p1,p2⟩:=g6 j o r N V;have e:=pm recs 0 j { s with nb:=s.nb+8*ops.length };simp only [cj] at e p2 ⊢;exact ⟨λt W=>p1▸W,λhc=>(p2 hc).eqv e⟩
   ·have:=iR ops 0 hb1 j o e N he u;omega
   ·have:=lD (masks:=jz ops []) ops [] hb2 i j x y (by simpa using U) (by simpa using hx) hy;simp only [dm,cj] at this;exact this.imp (g j i) λh=>h
   ·by_cases J:i=p
    ·
     subst J;rw [gr] at hx;cases hx;rcases A j y hy (by omega) with ⟨h,_⟩ | h
     ·omega
     ·exact .inr (by simp [gw,h,keys])
    ·by_cases K:j=p
     ·subst K;rw [gr] at hy;cases hy;rcases A i x hx J with ⟨_,h⟩ | h
      ·exact .inl h
      ·exact .inr (by simp [gw,h,keys])
     ·exact C trf x y i j M U (g5 i x hx J) (g5 j y hy K)
  have c:Eqv ((recs.take p).foldl St.put { s with nb:=s.nb+8*ops.length }) (appD 0 recs (λm=>decide (m<p)) { s with nb:=s.nb+8*ops.length }):=by
   have e:=pm recs 0 p { s with nb:=s.nb+8*ops.length };simpa using e
  have Y:∀j,j<ops.length->j≠p->(j<p\/(p<j/\(getN (jz ops []) (0+j)).testBit (0+p)=false))\/Must ops p j:=by
   intro j _ hne;cases u:(getN (jz ops []) (0+j)).testBit (0+p) with
   | false=>exact .inl ((Nat.lt_or_gt_of_ne hne).imp (λh=>h) λh=>⟨h,rfl⟩)
   | true=>simp only [cj] at u;exact .inr (g j p u)
  refine wp_region_any R (NB F g0 gr (g7.eqv c) Y (λD hD hd hn I x a' w' hv f=>⟨.pan v,_,I,⟨x,rfl,hv⟩,?inv,S⟩) _ _ ι a _ (by simp) (λj o e _ L=>by rw [G j] at L;cases L) (G p) (by rw [hno _ 0 _ _ G];exact hI1) (λi _ _ b u _=>?fresh) ?len)
  case inv=>
   have hH:∀b,look Q.H b=look (appD 0 recs D { s with nb:=s.nb+8*ops.length }).H b:=by
    intro b;rw [O.H,c.H,vI,vI];refine nX _ 0 _ _ b _ λj r Z u=>?_;simp only [cj];by_cases K:j=p
    ·subst K;rw [gr] at Z;cases Z;rw [gw] at u;simp [keys] at u
    ·rcases A j r Z K with ⟨d,hm⟩ | hm
     ·rw [hm.in hD g0 hd (by omega)];simp [d]
     ·rw [hm] at u;simp [keys] at u
   have hT:∀t v,look (F5 ops s.T) t=some (some v)->look (appD 0 recs D { s with nb:=s.nb+8*ops.length }).T t=some (some v):=by
    intro t v W;obtain ⟨d,h2⟩:=sO ops t v W;rw [xE,xm _ 0 D t _ λj r Z V=>?_]
    ·exact h2
    ·exfalso;obtain ⟨o,N⟩:=vP F Z;exact d o (fH N) ((F.loc j o r N Z).1 t V)
   refine ⟨f.size,f.defers,λt v W=>f.tmps t v (hT t v W),⟨f.mem.inj,λb r u=>?_,f.mem.dom,λb blk hl hdd=>f.mem.blk b blk ?_ hdd⟩,?_,f.new,?_,λb r u=>?_,?_,?_⟩
   ·have:=f.mem.low b r u;have e:=O.nb.trans c.nb;rw [ko] at e;show b<Q.nb;rw [e];exact this
   ·show look (wr++(appD 0 recs D { s with nb:=s.nb+8*ops.length }).H) b=_;rw [nJ,<-hH b,<-nJ];exact hl
   ·have e:=O.rb.trans c.rb;rw [vN] at e;have d:=f.ext;show ∀b q,ι0 b=some q->I b=some q\/Q.rb<=b;rw [e];simp only [St.app,vN] at d;exact d
   ·have e:=O.ro.trans c.ro;rw [ia] at e;have d:=f.fr;show Fr (roI ι0 Q.ro) w0.w w';rw [e];simp only [St.app,ia] at d;exact d
   ·have e:=O.lo.trans c.lo;rw [vX] at e;have d:=f.low b r u;show b<Q.lo;rw [e];simp only [St.app,vX] at d;exact d
   ·have e:=O.ro.trans c.ro;rw [ia] at e;have d:=f.fz;show ∀b q,I b=some (some q)->q.fz=true->b<Q.ro;rw [e];simp only [St.app,ia] at d;exact d
   ·have e:=O.ro.trans c.ro;rw [ia] at e;have d:=f.gl;show GL (roI ι0 Q.ro) w0.w;rw [e];simp only [St.app,ia] at d;exact d
  case fresh=>exact hI.fresh b (by omega)
  case len=>
   have:=HV (λi=>!Dn (Array.replicate ops.toArray.size false) i) (List.range ops.length);simpa using this
end Go.Abs
