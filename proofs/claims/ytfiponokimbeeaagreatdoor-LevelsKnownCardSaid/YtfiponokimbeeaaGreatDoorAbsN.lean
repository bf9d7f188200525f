
/- A region that draws its order: where what is unordered does not meet, every order comes to what the order of the text comes to.
   Conditions: none; generic over the program. -/
import Derived.Test.YtfiponokimbeeaaGreatDoorAbsM
set_option linter.unusedSimpArgs false
set_option linter.unusedVariables false
namespace Go.Abs
variable {P:Program}
structure Rec where
 dst:Option Nat
 val:Option V
 wr:List (Nat×Blk)
 rd:List Nat
def St.put (s:St) (r:Rec):St:=s.app r.dst r.val r.wr s.nb
def keys (wr:List (Nat×Blk)):List Nat:=wr.map (·.1)
theorem oz {α:Type} (l m:List (Nat×α)) (n:Nat):look (l++m) n=(look l n).or (look m n):=by
 induction l with
 | nil=>rfl
 | cons x l ih=>
  obtain ⟨k,v⟩:=x;rw [ep,aR,aR];split
  ·rfl
  ·exact ih
theorem qH {α:Type} {l:List (Nat×α)} {n:Nat} (h:n∉l.map (·.1)):look l n=none:=by
 induction l with
 | nil=>rfl
 | cons x l ih=>
  obtain ⟨k,v⟩:=x;simp only [fk,cf,not_or] at h;rw [aR,ab (λe=>h.1 e.symm)];exact ih h.2
theorem rA {α:Type} {l:List (Nat×α)} {n:Nat} (h:n∈l.map (·.1)):∃v,look l n=some v:=by
 induction l with
 | nil=>simp at h
 | cons x l ih=>
  obtain ⟨k,v⟩:=x;rw [aR];split
  ·exact ⟨v,rfl⟩
  ·rename_i a;simp only [fk,cf] at h;exact ih (h.resolve_left λe=>a e.symm)
theorem MM (s:St) (r:Rec) (t:Nat):look (s.put r).T t=if r.dst=some t then some r.val else look s.T t:=by
 unfold St.put St.app;cases a:r.dst with
 | none=>simp
 | some d=>
  simp only [aR];by_cases h:d=t
  ·subst h;simp
  ·simp [h]
theorem LH (s:St) (r:Rec) (b:Nat):look (s.put r).H b=(look r.wr b).or (look s.H b):=oz _ _ _
theorem Ss (s:St) (r:Rec):(s.put r).nb=s.nb:=rfl
structure Eqv (s s':St):Prop where
 T:∀t,look s.T t=look s'.T t
 H:∀b,look s.H b=look s'.H b
 nb:s.nb=s'.nb
 lo:s.lo=s'.lo
 ro:s.ro=s'.ro
 rb:s.rb=s'.rb
theorem Eqv.refl (s:St):Eqv s s:=⟨λ_=>rfl,λ_=>rfl,rfl,rfl,rfl,rfl⟩
theorem Eqv.symm {s s':St} (h:Eqv s s'):Eqv s' s:=⟨λt=>(h.T t).symm,λb=>(h.H b).symm,h.nb.symm,h.lo.symm,h.ro.symm,h.rb.symm⟩
theorem Eqv.trans {a b c:St} (h:Eqv a b) (k:Eqv b c):Eqv a c:=⟨λt=>(h.T t).trans (k.T t),λt=>(h.H t).trans (k.H t),h.nb.trans k.nb,h.lo.trans k.lo,h.ro.trans k.ro,h.rb.trans k.rb⟩
theorem Eqv.put {s s':St} (h:Eqv s s') (r:Rec):Eqv (s.put r) (s'.put r):=
 ⟨λt=>by rw [MM,MM,h.T],λb=>by rw [LH,LH,h.H],h.nb,h.lo,h.ro,h.rb⟩
theorem Eqv.puts:∀(l:List Rec) {s s':St},Eqv s s'->Eqv (l.foldl St.put s) (l.foldl St.put s')
 | [],_,_,h=>h
 | r::l,_,_,h=>Eqv.puts l (h.put r)
theorem Inv.eqv {n:Nat} {ι0 ι:Inj} {w0:Base} {s s':St} {a:Act} {w:World} (h:Inv n ι0 w0 ι s a w) (e:Eqv s s'):Inv n ι0 w0 ι s' a w:=
 ⟨h.size,h.defers,λt v E=>h.tmps t v (by rw [e.T];exact E),⟨h.mem.inj,λb r C=>by rw [<-e.nb];exact h.mem.low b r C,h.mem.dom,λb blk F G=>h.mem.blk b blk (by rw [e.H];exact F) G⟩,by rw [<-e.rb];exact h.ext,h.new,by rw [<-e.ro];exact h.fr,λb r C=>by rw [<-e.lo];exact h.low b r C,by rw [<-e.ro];exact h.fz,by rw [<-e.ro];exact h.gl⟩
def appD:Nat->List Rec->(Nat->Bool)->St->St
 | _,[],_,s=>s
 | i,r::l,D,s=>appD (i+1) l D (if D i=true then s.put r else s)
def wq:Nat->List Rec->(Nat->Bool)->Nat->Option (Option V)->Option (Option V)
 | _,[],_,_,x=>x
 | i,r::l,D,t,x=>wq (i+1) l D t (if D i=true/\r.dst=some t then some r.val else x)
def wZ:Nat->List Rec->(Nat->Bool)->Nat->Option Blk->Option Blk
 | _,[],_,_,x=>x
 | i,r::l,D,b,x=>wZ (i+1) l D b (if D i=true then (look r.wr b).or x else x)
theorem yg:∀(l:List Rec) (i:Nat) (D:Nat->Bool) (s:St) (t:Nat),look (appD i l D s).T t=wq i l D t (look s.T t)
 | [],_,_,_,_=>rfl
 | r::l,i,D,s,t=>by
  simp only [appD,wq,yg l];congr 1;cases D i
  ·simp
  ·simp only [mN,aK];rw [MM]
theorem wm:∀(l:List Rec) (i:Nat) (D:Nat->Bool) (s:St) (b:Nat),look (appD i l D s).H b=wZ i l D b (look s.H b)
 | [],_,_,_,_=>rfl
 | r::l,i,D,s,b=>by
  simp only [appD,wZ,wm l];congr 1;cases D i
  ·simp
  ·simp only [aK];rw [LH]
theorem kr:∀(l:List Rec) (i:Nat) (D:Nat->Bool) (s:St),(appD i l D s).nb=s.nb
 | [],_,_,_=>rfl
 | r::l,i,D,s=>by
  simp only [appD,kr l];split<;>rfl
theorem ir:∀(l:List Rec) (i:Nat) (D:Nat->Bool) (s:St),(appD i l D s).ro=s.ro
 | [],_,_,_=>rfl
 | r::l,i,D,s=>by
  simp only [appD,ir l];split<;>rfl
theorem wM:∀(l:List Rec) (i:Nat) (D:Nat->Bool) (s:St),(appD i l D s).lo=s.lo
 | [],_,_,_=>rfl
 | r::l,i,D,s=>by
  simp only [appD,wM l];split<;>rfl
theorem xe:∀(l:List Rec) (i:Nat) (D:Nat->Bool) (s:St),(appD i l D s).rb=s.rb
 | [],_,_,_=>rfl
 | r::l,i,D,s=>by
  simp only [appD,xe l];split<;>rfl
theorem su:∀(l:List Rec) (i:Nat) (D a:Nat->Bool) (t:Nat) (x:Option (Option V)),(∀j r,l[j]?=some r->r.dst=some t->D (i+j)=a (i+j))->wq i l D t x=wq i l a t x
 | [],_,_,_,_,_,_=>rfl
 | r::l,i,D,a,t,x,h=>by
  simp only [wq];have b:=h 0 r (by simp);simp only [cn] at b;rw [su l (i+1) D a t _ λj e f d=>by have:=h (j+1) e (by simpa using f) d;rwa [show i+(j+1)=i+1+j by omega] at this];congr 1;by_cases c:r.dst=some t
  ·rw [b c]
  ·simp [c]
theorem yf (l:List Rec) (i:Nat) (D:Nat->Bool) (t:Nat) (x:Option (Option V)) (h:∀j r,l[j]?=some r->r.dst=some t->D (i+j)=false):wq i l D t x=x:=by
 induction l generalizing i x with
 | nil=>rfl
 | cons r l ih=>
  simp only [wq];have a:=h 0 r (by simp);simp only [cn] at a;have:¬(D i=true/\r.dst=some t):=λ⟨b,f⟩=>by rw [a f] at b;cases b
  rw [ab this];exact ih (i+1) x λj d e c=>by have:=h (j+1) d (by simpa using e) c;rwa [show i+(j+1)=i+1+j by omega] at this
theorem EG:∀(l:List Rec) (i j:Nat) (D:Nat->Bool) (t:Nat) (x:Option (Option V)) (r:Rec),l[j]?=some r->D (i+j)=true->r.dst=some t->
  (∀k b,j<k->l[k]?=some b->b.dst=some t->D (i+k)=false)->wq i l D t x=some r.val
 | [],_,_,_,_,_,_,h,_,_,_=>by simp at h
 | r0::l,i,0,D,t,x,r,h,d,e,a=>by
  simp only [kU,ak] at h;subst h;simp only [cn] at d;simp only [wq];rw [ae ⟨d,e⟩];exact yf l (i+1) D t _ λk b f c=>by have:=a (k+1) b (by omega) (by simpa using f) c;rwa [show i+(k+1)=i+1+k by omega] at this
 | r0::l,i,j+1,D,t,x,r,h,d,e,a=>by
  simp only [wq]
  exact EG l (i+1) j D t _ r (by simpa using h) (by rwa [show i+1+j=i+(j+1) by omega]) e λk b f g c=>by
   have:=a (k+1) b (by omega) (by simpa using g) c;rwa [show i+(k+1)=i+1+k by omega] at this
theorem pf:∀(l:List Rec) (i:Nat) (D a:Nat->Bool) (b:Nat) (x:Option Blk),(∀j r,l[j]?=some r->b∈keys r.wr->D (i+j)=a (i+j))->wZ i l D b x=wZ i l a b x
 | [],_,_,_,_,_,_=>rfl
 | r::l,i,D,a,b,x,h=>by
  simp only [wZ];have c:=h 0 r (by simp);simp only [cn] at c;rw [pf l (i+1) D a b _ λj f g e=>by have:=h (j+1) f (by simpa using g) e;rwa [show i+(j+1)=i+1+j by omega] at this];congr 1;by_cases d:b∈keys r.wr
  ·rw [c d]
  ·simp [qH d]
theorem Hw (l:List Rec) (i:Nat) (D:Nat->Bool) (b:Nat) (x:Option Blk) (h:∀j r,l[j]?=some r->b∈keys r.wr->D (i+j)=false):wZ i l D b x=x:=by
 induction l generalizing i x with
 | nil=>rfl
 | cons r l ih=>
  simp only [wZ];have a:=h 0 r (by simp);simp only [cn] at a;have:(if D i=true then (look r.wr b).or x else x)=x:=by
   by_cases c:b∈keys r.wr
   ·rw [a c];simp
   ·rw [qH c];simp
  rw [this];exact ih (i+1) x λj e f d=>by have:=h (j+1) e (by simpa using f) d;rwa [show i+(j+1)=i+1+j by omega] at this
theorem FL:∀(l:List Rec) (i j:Nat) (D:Nat->Bool) (b:Nat) (x:Option Blk) (r:Rec),l[j]?=some r->D (i+j)=true->b∈keys r.wr->
  (∀k c,j<k->l[k]?=some c->b∈keys c.wr->D (i+k)=false)->wZ i l D b x=look r.wr b
 | [],_,_,_,_,_,_,h,_,_,_=>by simp at h
 | r0::l,i,0,D,b,x,r,h,e,f,a=>by
  simp only [kU,ak] at h;subst h;simp only [cn] at e;simp only [wZ];obtain ⟨v,n⟩:=rA f;rw [ae e,n];exact Hw l (i+1) D b _ λk c g d=>by have:=a (k+1) c (by omega) (by simpa using g) d;rwa [show i+(k+1)=i+1+k by omega] at this
 | r0::l,i,j+1,D,b,x,r,h,e,f,a=>by
  simp only [wZ]
  exact FL l (i+1) j D b _ r (by simpa using h) (by rwa [show i+1+j=i+(j+1) by omega]) f λk c g m d=>by
   have:=a (k+1) c (by omega) (by simpa using m) d;rwa [show i+(k+1)=i+1+k by omega] at this
theorem qy:∀(l:List Rec) (i j:Nat) (s:St),Eqv ((l.take j).foldl St.put s) (appD i l (λm=>decide (m<i+j)) s)
 | [],i,j,s=>by simp [appD];exact Eqv.refl s
 | r::l,i,0,s=>by
  have:∀(l:List Rec) (i a:Nat) (s:St),i<=a->appD a l (λm=>decide (m<i)) s=s:=by
   intro l
   induction l with
   | nil=>intros;rfl
   | cons r l ih=>intro i a s h;simp only [appD,show ¬a<i by omega,pV,bA,aC];exact ih i (a+1) s (by omega)
  simp only [lw,Fg,cn];rw [this (r::l) i i s (aP _)];exact Eqv.refl s
 | r::l,i,j+1,s=>by
  simp only [mz,uq,appD,show i<i+(j+1) by omega,sD,aK];have:=qy l (i+1) j (s.put r);rwa [show (λm=>decide (m<i+1+j))=λm=>decide (m<i+(j+1)) by funext m;simp only [nI];omega] at this
theorem zw:∀(l:List Rec) (i:Nat) (D:Nat->Bool) (s:St),(∀j,j<l.length->D (i+j)=true)->appD i l D s=l.foldl St.put s
 | [],_,_,_,_=>rfl
 | r::l,i,D,s,h=>by
  have a:=h 0 (by simp);simp only [cn] at a;simp only [appD,a,aK,uq];exact zw l (i+1) D _ λj b=>by have:=h (j+1) (by simpa using b);rwa [show i+(j+1)=i+1+j by omega] at this
def t7 (P:Program) (n nb0:Nat) (ops:List Oper) (i:Nat) (o:Oper) (r:Rec) (base:St):Prop:=
 ∀s':St,(∀t∈o.looksAt ops.toArray,look s'.T t=look base.T t)->(∀b∈r.rd,look s'.H b=look base.H b)->s'.nb=base.nb->s'.ro=base.ro->
  ∀(ι0:Inj) (w0:Base) (ι:Inj) (a:Act) (w:World),Inv n ι0 w0 ι s' a w->(∀b,nb0+8*i<=b->b<nb0+8*i+8->ι b=none)->∀(K:Act->World->Prop) (Q:Exit->Act->World->Prop),
   (∀c d w',(∀b,(b<nb0+8*i\/nb0+8*i+8<=b)->c b=ι b)->Inv n ι0 w0 c (s'.put r) d w'->K d w')->
   if Region.wanted o (yielded ops.toArray a.tmps) then o.wp P a w K Q else K (a.put o.dst undef) w
def xW (P:Program) (n nb0:Nat) (ops:List Oper) (i:Nat) (o:Oper) (v:V) (wr:List (Nat×Blk)) (rd:List Nat) (base:St):Prop:=
 ∀s':St,(∀t∈o.looksAt ops.toArray,look s'.T t=look base.T t)->(∀b∈rd,look s'.H b=look base.H b)->s'.nb=base.nb->s'.ro=base.ro->
  ∀(ι0:Inj) (w0:Base) (ι:Inj) (a:Act) (w:World),Inv n ι0 w0 ι s' a w->(∀b,nb0+8*i<=b->b<nb0+8*i+8->ι b=none)->∀(K:Act->World->Prop) (Q:Exit->Act->World->Prop),
   (∀c x w',VR c v x->Inv n ι0 w0 c (s'.app none none wr s'.nb) a w'->Q (.panic [{ v:=x,recovered:=false }]) a w')->
   Region.wanted o (yielded ops.toArray a.tmps)=true/\o.wp P a w K Q
theorem xW.eqv {n nb0:Nat} {ops:List Oper} {i:Nat} {o:Oper} {v:V} {wr:List (Nat×Blk)} {rd:List Nat} {base C:St} (h:xW P n nb0 ops i o v wr rd base) (e:Eqv base C):xW P n nb0 ops i o v wr rd C:=
 λs' E J O F=>h s' (λt G=>by rw [E t G,e.T]) (λb Q=>by rw [J b Q,e.H]) (by rw [O,e.nb]) (by rw [F,e.ro])
theorem t7.eqv {n nb0:Nat} {ops:List Oper} {i:Nat} {o:Oper} {r:Rec} {base C:St} (h:t7 P n nb0 ops i o r base) (e:Eqv base C):t7 P n nb0 ops i o r C:=
 λs' E J O F=>h s' (λt G=>by rw [E t G,e.T]) (λb Q=>by rw [J b Q,e.H]) (by rw [O,e.nb]) (by rw [F,e.ro])
theorem yO {α:Type} {ops:List Oper} {o:Oper} {s:St} {k:Bool->St->Option α} {z:α} (h:vG ops o s k=some z):
  ∃c r,k c r=some z/\Eqv r s/\∀s':St,(∀t∈o.looksAt ops.toArray,look s'.T t=look s.T t)->∀(n:Nat) (ι0 ι:Inj) (w0:Base) (a:Act) (w:World),Inv n ι0 w0 ι s' a w->
   Region.wanted o (yielded ops.toArray a.tmps)=c:=by
 unfold vG at h;split at h
 ·rename_i l;exact ⟨true,s,h,Eqv.refl s,λ_ _ _ _ _ _ _ _ _=>by simp [Region.wanted,l]⟩
 ·rename_i j c l;split at h
  case h_2=>cases h
  rename_i d i;have f:d∈o.looksAt ops.toArray:=by
   unfold Oper.looksAt;unfold gtmp at i;split at i
   ·rename_i v q;simp [l,q,i]
   ·cases i
  have again:∀x,look s.T d=some (some (.b x))->Eqv { s with T:=(d,some (V.b x))::s.T } s:=by
   intro x hx;refine ⟨λt=>?_,λ_=>rfl,rfl,rfl,rfl,rfl⟩;show look ((d,some (V.b x))::s.T) t=look s.T t;rw [aR];split
   ·rename_i e;subst e;exact hx.symm
   ·rfl
  split at h
  ·rename_i x hx;cases x
   ·refine ⟨!c,_,h,again _ hx,λs' hs n ι0 ι w0 a w p=>?_⟩;obtain ⟨y,m,g⟩:=p.tmps d _ (by rw [hs d f];exact hx);simp only [VR] at g;subst g;have hy:=qT i a.tmps;rw [m] at hy;cases c<;>simp [Region.wanted,l,hy]
   ·refine ⟨c,_,h,again _ hx,λs' hs n ι0 ι w0 a w p=>?_⟩;obtain ⟨y,m,g⟩:=p.tmps d _ (by rw [hs d f];exact hx);simp only [VR] at g;subst g;have hy:=qT i a.tmps;rw [m] at hy;cases c<;>simp [Region.wanted,l,hy]
  ·rename_i hx;refine ⟨false,s,h,Eqv.refl s,λs' hs n ι0 ι w0 a w p=>?_⟩;obtain ⟨y,m,g⟩:=p.tmps d _ (by rw [hs d f];exact hx);simp only [VR] at g;obtain ⟨u,rfl,_⟩:=g;have hy:=qT i a.tmps;rw [m] at hy;simp [Region.wanted,l,hy]
  ·cases h
theorem wY {ops:Array Oper} {o:Oper} {s s':St} (h:∀t∈o.looksAt ops,look s'.T t=look s.T t):∀x∈o.op.operands.toList,opd s'.T x=opd s.T x:=by
 intro x hx;cases x with
 | tmp t=>
  have:=h t (by
   unfold Oper.looksAt;simp only [mX,List.mem_filterMap];exact .inl ⟨.tmp t,hx,rfl⟩)
  simp only [opd,this]
 | _=>rfl
theorem Ix {α:Type} {E:List Ent} (hE:∀x∈E,fp P x) {n nb0:Nat} {ops:List Oper} {masks:List Nat} {p:Nat} {k:List TE->Option α} {z:α}:∀(l:List Oper) (i:Nat) (s:St) (tr:List TE),
  nb0+8*(i+l.length)<=s.nb->runB P E n nb0 ops masks p i l s tr k=some z->
  ∃(recs:List Rec) (trf:List TE),recs.length=l.length/\k trf=some z/\(∀x∈tr,x∈trf)/\
   (∀j r,recs[j]?=some r->(⟨i+j,r.rd,keys r.wr⟩:TE)∈trf\/(r.rd=[]/\r.wr=[]))/\
   ∀(j:Nat) (o:Oper) (r:Rec),l[j]?=some o->recs[j]?=some r->r.dst=o.dst/\((getN masks (i+j)).testBit p=false->t7 P n nb0 ops (i+j) o r ((recs.take j).foldl St.put s))
 | [],i,s,tr,I,h=>⟨[],tr,rfl,h,λ_ h=>h,λj r h=>by simp at h,λj o r h=>by simp at h⟩
 | o::l,i,s,tr,I,h=>by
  simp only [aM] at I;simp only [runB] at h;have more:∀(e:Rec) (d:List TE) (C:St),e.dst=o.dst->((getN masks i).testBit p=false->t7 P n nb0 ops i o e s)->Eqv C (s.put e)->s.nb<=C.nb->(∀x∈tr,x∈d)->((⟨i,e.rd,keys e.wr⟩:TE)∈d\/(e.rd=[]/\e.wr=[]))->
    runB P E n nb0 ops masks p (i+1) l C d k=some z->∃(recs:List Rec) (trf:List TE),recs.length=(o::l).length/\k trf=some z/\(∀x∈tr,x∈trf)/\
   (∀j r,recs[j]?=some r->(⟨i+j,r.rd,keys r.wr⟩:TE)∈trf\/(r.rd=[]/\r.wr=[]))/\
   ∀(j:Nat) (F:Oper) (r:Rec),(o::l)[j]?=some F->recs[j]?=some r->r.dst=F.dst/\((getN masks (i+j)).testBit p=false->t7 P n nb0 ops (i+j) F r ((recs.take j).foldl St.put s)):=by
   intro e d C S hl e2 V R M h;obtain ⟨recs,trf,g1,g2,Z,g5,g6⟩:=Ix hE l (i+1) C d (by omega) h;refine ⟨e::recs,trf,by simp [g1],g2,λx hx=>Z x (R x hx),λj r m=>?_,λj F r N m=>?_⟩
   ·cases j with
    | zero=>simp only [kU,ak] at m;subst m;exact M.imp (Z _) id
    | succ j=>have:=g5 j r (by simpa using m);rwa [show i+1+j=i+(j+1) by omega] at this
   ·cases j with
    | zero=>
     simp only [kU,ak] at N m;subst N m;exact ⟨S,hl⟩
    | succ j=>
     obtain ⟨p1,Y⟩:=g6 j F r (by simpa using N) (by simpa using m);rw [show i+1+j=i+(j+1) by omega] at Y;exact ⟨p1,λu=>(Y u).eqv (by simpa using Eqv.puts (recs.take j) e2)⟩
  split at h
  ·rename_i B;exact more ⟨o.dst,none,[],[]⟩ tr (s.app o.dst none [] s.nb) rfl (λu=>by rw [B] at u;cases u) (Eqv.refl _) (aP _) (λ_ h=>h) (.inr ⟨rfl,rfl⟩) h
  obtain ⟨A,D,h,q,hw⟩:=yO h;have c:D.nb=s.nb:=q.nb;cases A
  ·simp only at h;split at h
   case h_2=>cases h
   rename_i S;refine more ⟨o.dst,some (.tp []),[],[]⟩ tr (D.app o.dst (some (.tp [])) [] D.nb) rfl (λ_ s' J q2 W X ι0 w0 ι a w y G K Q O=>?_) (q.put ⟨o.dst,some (.tp []),[],[]⟩) (wv c.symm) (λ_ h=>h) (.inr ⟨rfl,rfl⟩) h;rw [hw s' J n ι0 ι w0 a w y];simp only [bA,aC];exact O ι _ _ (λ_ _=>rfl) (y.skip S)
  ·simp only at h;rcases AP hE (by omega) h with ⟨val,wr,rd,g,L,f⟩ | ⟨v,wr,rd,L,f⟩
   ·refine more ⟨o.dst,val,wr,rd⟩ (⟨i,rd,keys wr⟩::tr) (D.app o.dst val wr D.nb) rfl (λ_ s' J q2 W X ι0 w0 ι a w y G K Q O=>?_) (q.put ⟨o.dst,val,wr,rd⟩) (wv c.symm) (λx hx=>eO _ hx) (.inl (by simp [keys])) L;rw [hw s' J n ι0 ι w0 a w y];simp only [aK];refine f s' (wY λt ht=>by rw [J t ht,q.T]) (λb u=>by rw [q2 b u,q.H]) (by rw [W,c]) (by rw [X,q.ro]) ι0 w0 ι a w y (by simpa using G) K Q λU a' w' z1 z2=>O U a' w' (by simpa using z1) z2
   ·cases L
theorem Ar {α:Type} {E:List Ent} (hE:∀x∈E,fp P x) {n nb0:Nat} {ops:List Oper} {masks:List Nat} {k:St->List TE->Option α} {kp:Nat->V->St->List TE->Option α} {z:α}:∀(l:List Oper) (i:Nat) (s:St) (tr:List TE),
  nb0+8*(i+l.length)<=s.nb->runD P E n nb0 ops masks kp i l s tr k=some z->
  (∃(recs:List Rec) (d:St) (trf:List TE),recs.length=l.length/\k d trf=some z/\Eqv d (recs.foldl St.put s)/\(∀x∈tr,x∈trf)/\
   (∀j r,recs[j]?=some r->(⟨i+j,r.rd,keys r.wr⟩:TE)∈trf\/(r.rd=[]/\r.wr=[]))/\
   ∀(j:Nat) (o:Oper) (r:Rec),l[j]?=some o->recs[j]?=some r->r.dst=o.dst/\t7 P n nb0 ops (i+j) o r ((recs.take j).foldl St.put s))\/
  (∃(p:Nat) (op:Oper) (recs:List Rec) (d:St) (M:St) (trf:List TE) (v:V) (wr:List (Nat×Blk)) (u:Rec),recs.length=l.length/\l[p]?=some op/\recs[p]?=some u/\u.dst=op.dst/\u.wr=[]/\M=d.app none none wr d.nb/\kp (i+p) v M trf=some z/\Eqv d ((recs.take p).foldl St.put s)/\(∀x∈tr,x∈trf)/\
   xW P n nb0 ops (i+p) op v wr u.rd ((recs.take p).foldl St.put s)/\
   (∀j r,recs[j]?=some r->j≠p->(⟨i+j,r.rd,keys r.wr⟩:TE)∈trf\/(r.rd=[]/\r.wr=[]))/\
   ∀(j:Nat) (o:Oper) (r:Rec),l[j]?=some o->recs[j]?=some r->r.dst=o.dst/\((j<p\/(p<j/\(getN masks (i+j)).testBit (i+p)=false))->t7 P n nb0 ops (i+j) o r ((recs.take j).foldl St.put s)))
 | [],i,s,tr,hnb,h=>.inl ⟨[],s,tr,rfl,h,Eqv.refl s,λ_ h=>h,λj r h=>by simp at h,λj o r h=>by simp at h⟩
 | o::l,i,s,tr,hnb,h=>by
  simp only [aM] at hnb;simp only [runD] at h;obtain ⟨U,G,h,m,hw⟩:=yO h;have e:G.nb=s.nb:=m.nb;have more:∀(B:Rec) (q:List TE) (Y:St),B.dst=o.dst->t7 P n nb0 ops i o B s->Eqv Y (s.put B)->s.nb<=Y.nb->(∀x∈tr,x∈q)->((⟨i,B.rd,keys B.wr⟩:TE)∈q\/(B.rd=[]/\B.wr=[]))->
    runD P E n nb0 ops masks kp (i+1) l Y q k=some z->
    (∃(recs:List Rec) (d:St) (trf:List TE),recs.length=(o::l).length/\k d trf=some z/\Eqv d (recs.foldl St.put s)/\(∀x∈tr,x∈trf)/\
   (∀j r,recs[j]?=some r->(⟨i+j,r.rd,keys r.wr⟩:TE)∈trf\/(r.rd=[]/\r.wr=[]))/\
   ∀(j:Nat) (f:Oper) (r:Rec),(o::l)[j]?=some f->recs[j]?=some r->r.dst=f.dst/\t7 P n nb0 ops (i+j) f r ((recs.take j).foldl St.put s))\/
    (∃(p:Nat) (op:Oper) (recs:List Rec) (d:St) (M:St) (trf:List TE) (v:V) (wr:List (Nat×Blk)) (u:Rec),recs.length=(o::l).length/\(o::l)[p]?=some op/\recs[p]?=some u/\u.dst=op.dst/\u.wr=[]/\M=d.app none none wr d.nb/\kp (i+p) v M trf=some z/\Eqv d ((recs.take p).foldl St.put s)/\(∀x∈tr,x∈trf)/\
   xW P n nb0 ops (i+p) op v wr u.rd ((recs.take p).foldl St.put s)/\
   (∀j r,recs[j]?=some r->j≠p->(⟨i+j,r.rd,keys r.wr⟩:TE)∈trf\/(r.rd=[]/\r.wr=[]))/\
   ∀(j:Nat) (f:Oper) (r:Rec),(o::l)[j]?=some f->recs[j]?=some r->r.dst=f.dst/\((j<p\/(p<j/\(getN masks (i+j)).testBit (i+p)=false))->t7 P n nb0 ops (i+j) f r ((recs.take j).foldl St.put s))):=by
   intro B q Y hd hl J hnb2 htr X h;rcases Ar hE l (i+1) Y q (by omega) h with ⟨recs,d,trf,R,N,g3,L,g5,Z⟩ | ⟨p,op,recs,d,M,trf,v,wr,u,R,g0,gr,gd,gw,gs,N,g3,L,g7,g5,Z⟩
   ·refine .inl ⟨B::recs,d,trf,by simp [R],N,g3.trans (Eqv.puts recs J),λx hx=>L x (htr x hx),λj r c=>?_,λj f r y c=>?_⟩
    ·cases j with
     | zero=>simp only [kU,ak] at c;subst c;exact X.imp (L _) id
     | succ j=>have:=g5 j r (by simpa using c);rwa [show i+1+j=i+(j+1) by omega] at this
    ·cases j with
     | zero=>
      simp only [kU,ak] at y c;subst y c;exact ⟨hd,hl⟩
     | succ j=>
      obtain ⟨p1,I⟩:=Z j f r (by simpa using y) (by simpa using c);rw [show i+1+j=i+(j+1) by omega] at I;exact ⟨p1,I.eqv (by simpa using Eqv.puts (recs.take j) J)⟩
   ·rw [show i+1+p=i+(p+1) by omega] at N g7;refine .inr ⟨p+1,op,B::recs,d,M,trf,v,wr,u,by simp [R],by simpa using g0,by simpa using gr,gd,gw,gs,N,g3.trans (by simpa using Eqv.puts (recs.take p) J),λx hx=>L x (htr x hx),g7.eqv (by simpa using Eqv.puts (recs.take p) J),λj r c S=>?_,λj f r y c=>?_⟩
    ·cases j with
     | zero=>simp only [kU,ak] at c;subst c;exact X.imp (L _) id
     | succ j=>have:=g5 j r (by simpa using c) (by omega);rwa [show i+1+j=i+(j+1) by omega] at this
    ·cases j with
     | zero=>
      simp only [kU,ak] at y c;subst y c;exact ⟨hd,λ_=>hl⟩
     | succ j=>
      obtain ⟨p1,I⟩:=Z j f r (by simpa using y) (by simpa using c);rw [show i+1+j=i+(j+1) by omega,show i+1+p=i+(p+1) by omega] at I;exact ⟨p1,λhc=>(I (hc.imp (λh=>by omega) λh=>⟨by omega,h.2⟩)).eqv (by simpa using Eqv.puts (recs.take j) J)⟩
  cases U
  ·simp only at h;split at h
   case h_2=>cases h
   rename_i hd;refine more ⟨o.dst,some (.tp []),[],[]⟩ tr (G.app o.dst (some (.tp [])) [] G.nb) rfl (λs' F q2 O W ι0 w0 ι a w D C K Q hK=>?_) (m.put ⟨o.dst,some (.tp []),[],[]⟩) (wv e.symm) (λ_ h=>h) (.inr ⟨rfl,rfl⟩) h;rw [hw s' F n ι0 ι w0 a w D];simp only [bA,aC];exact hK ι _ _ (λ_ _=>rfl) (D.skip hd)
  ·simp only at h;rcases AP hE (by omega) h with ⟨val,wr,rd,g,hk,A⟩ | ⟨v,wr,rd,hk,A⟩
   ·refine more ⟨o.dst,val,wr,rd⟩ (⟨i,rd,keys wr⟩::tr) (G.app o.dst val wr G.nb) rfl (λs' F q2 O W ι0 w0 ι a w D C K Q hK=>?_) (m.put ⟨o.dst,val,wr,rd⟩) (wv e.symm) (λx hx=>eO _ hx) (.inl (by simp [keys])) hk;rw [hw s' F n ι0 ι w0 a w D];simp only [aK];refine A s' (wY λt ht=>by rw [F t ht,m.T]) (λb hb=>by rw [q2 b hb,m.H]) (by rw [O,e]) (by rw [W,m.ro]) ι0 w0 ι a w D (by simpa using C) K Q λι' a' w' z1 z2=>hK ι' a' w' (by simpa using z1) z2
   ·obtain ⟨recs,trf,R,N,L,g5,Z⟩:=Ix hE l (i+1) _ tr (by simp only [St.app];omega) hk;have J:Eqv (G.app o.dst none [] G.nb) (s.put ⟨o.dst,none,[],rd⟩):=m.put ⟨o.dst,none,[],rd⟩;refine .inr ⟨0,o,⟨o.dst,none,[],rd⟩::recs,G,_,trf,v,wr,⟨o.dst,none,[],rd⟩,by simp [R],rfl,rfl,rfl,rfl,rfl,N,m,L,λs' F q2 O W ι0 w0 ι a w D C K Q hK=>?_,λj r c S=>?_,λj f r y c=>?_⟩
    ·simp only [lw,Fg] at F q2 O W;exact ⟨hw s' F n ι0 ι w0 a w D,A s' (wY λt ht=>by rw [F t ht,m.T]) (λb hb=>by rw [q2 b hb,m.H]) (by rw [O,e]) (by rw [W,m.ro]) ι0 w0 ι a w D (by simpa using C) K Q hK⟩
    ·cases j with
     | zero=>exact absurd rfl S
     | succ j=>have:=g5 j r (by simpa using c);rwa [show i+1+j=i+(j+1) by omega] at this
    ·cases j with
     | zero=>
      simp only [kU,ak] at y c;subst y c;exact ⟨rfl,λh=>by omega⟩
     | succ j=>
      obtain ⟨p1,I⟩:=Z j f r (by simpa using y) (by simpa using c);rw [show i+1+j=i+(j+1) by omega] at I;refine ⟨p1,λhc=>(I ?_).eqv (by simpa using Eqv.puts (recs.take j) J)⟩;rcases hc with hc | hc
      ·omega
      ·exact hc.2
def Down (ops:List Oper) (D:Nat->Bool):Prop:=∀j o e,ops[j]?=some o->D j=true->e∈o.after.toList->Region.binds .any e=true->D e.on=true
def Must (ops:List Oper) (i j:Nat):Prop:=∀D,Down ops D->D j=true->D i=true
def Dn (a:Array Bool):Nat->Bool:=λi=>a.getD i false
structure DrawFacts (P:Program) (n nb0:Nat) (ops:List Oper) (recs:List Rec) (s0:St) (live:Nat->Prop):Prop where
 len:recs.length=ops.length
 nb:s0.nb=nb0+8*ops.length
 loc:∀(j:Nat) (o:Oper) (r:Rec),ops[j]?=some o->recs[j]?=some r->(∀t,r.dst=some t->o.dst=some t)/\(live j->t7 P n nb0 ops j o r (appD 0 recs (λm=>decide (m<j)) s0))
 down:∀(j:Nat) (o:Oper) (e:Edge),ops[j]?=some o->e∈o.after.toList->Region.binds .any e=true->e.on<j
 apart:∀(i j:Nat) (x y:Oper),i<j->ops[i]?=some x->ops[j]?=some y->Must ops i j\/x.apart ops.toArray y=true
 blk:∀(i j:Nat) (x y:Rec),i<j->recs[i]?=some x->recs[j]?=some y->Must ops i j\/((∀b∈keys x.wr,b∉y.rd/\b∉keys y.wr)/\∀b∈x.rd,b∉keys y.wr)
theorem sM {ops:List Oper} {a:Array Bool} {i:Nat} (hs:a.size=ops.length) (h:i∈Region.ready .any ops.toArray a):
  ∃o,ops[i]?=some o/\i<ops.length/\Dn a i=false/\∀e∈o.after.toList,Region.binds .any e=true->Dn a e.on=true:=by
 unfold Region.ready at h;simp only [oL,kj,az,xc] at h;obtain ⟨c,d,f⟩:=h;have b:ops[i]?=some ops[i]:=by simp [c]
 refine ⟨ops[i],b,c,?_,λe g j=>?_⟩
 ·unfold Dn;have:i<a.size:=by omega
  simp only [qN,U5 this,wH] at d ⊢;simpa using d
 ·simp only [List.getElem?_toArray,b,eo,wH] at f;have:=(Array.all_eq_true'.1 f) e (by simpa using g);simp only [j,cX,pP] at this;exact this
theorem zb {ops:List Oper} {a:Array Bool} {i:Nat} {o:Oper} (hs:a.size=ops.length) (c:ops[i]?=some o) (d:Dn a i=false)
  (g:∀e∈o.after.toList,Region.binds .any e=true->Dn a e.on=true):i∈Region.ready .any ops.toArray a:=by
 have hi:i<ops.length:=by
  rcases aF i ops.length with b | b
  ·exact b
  ·rw [fW b] at c;cases c
 unfold Region.ready;simp only [oL,kj,az,xc];refine ⟨hi,?_,?_⟩
 ·have:i<a.size:=by omega
  unfold Dn at d;simp only [qN,U5 this,wH] at d ⊢;simp [d]
 ·simp only [List.getElem?_toArray,c,eo,wH];refine Array.all_eq_true'.2 λe f=>?_;cases h:Region.binds .any e with
  | false=>rfl
  | true=>
   have:=g e (by simpa using f) h;unfold Dn at this;simpa using this
theorem yT {a:Array Bool} {i:Nat} (h:i<a.size) (j:Nat):Dn (a.setIfInBounds i true) j=if j=i then true else Dn a j:=by
 unfold Dn;simp only [qN];rw [P7];by_cases b:i=j
 ·subst b;simp [h]
 ·simp [b,show ¬j=i from λe=>b e.symm]
theorem Down.add {ops:List Oper} {D:Nat->Bool} (h:Down ops D) {i:Nat} {o:Oper} (O:ops[i]?=some o) (U:∀e∈o.after.toList,Region.binds .any e=true->D e.on=true):
  Down ops λj=>if j=i then true else D j:=by
 intro j Q e E G F J;show (if e.on=i then true else D e.on)=true;by_cases C:j=i
 ·subst C;rw [O] at E;cases E;have:=U e F J;split
  ·rfl
  ·exact this
 ·simp only [C,aC] at G;have:=h j Q e E G F J;split
  ·rfl
  ·exact this
theorem Must.in {ops:List Oper} {D:Nat->Bool} (h:Down ops D) {i k:Nat} {o:Oper} (E:ops[i]?=some o) (F:∀e∈o.after.toList,Region.binds .any e=true->D e.on=true)
  (G:Must ops k i) (C:k≠i):D k=true:=by
 have:=G _ (h.add E F) (by simp);simpa [C] using this
section
variable {n nb0:Nat} {ops:List Oper} {recs:List Rec} {s0:St} {live:Nat->Prop} (F:DrawFacts P n nb0 ops recs s0 live)
include F
theorem vI {i:Nat} {o:Oper} (h:ops[i]?=some o):∃r,recs[i]?=some r:=by
 have hi:i<ops.length:=by
  rcases aF i ops.length with a | a
  ·exact a
  ·rw [fW a] at h;cases h
 exact ⟨recs[i]'(by rw [F.len];exact hi),by simp [F.len,hi]⟩
theorem xp {i:Nat} {r:Rec} (h:recs[i]?=some r):∃o,ops[i]?=some o:=by
 have hi:i<recs.length:=by
  rcases aF i recs.length with a | a
  ·exact a
  ·rw [fW a] at h;cases h
 exact ⟨ops[i]'(by rw [<-F.len];exact hi),by simp [F.len▸hi]⟩
theorem zF {D:Nat->Bool} (s:Down ops D) {i:Nat} {o:Oper} (f:ops[i]?=some o) (u:D i=false) (x:∀e∈o.after.toList,Region.binds .any e=true->D e.on=true)
  {t:Nat} (v:t∈o.looksAt ops.toArray):look (appD 0 recs D s0).T t=look (appD 0 recs (λm=>decide (m<i)) s0).T t:=by
 rw [yg,yg];refine su recs 0 _ _ t _ λj r q w=>?_;simp only [cP];obtain ⟨k,b⟩:=xp F q;have a:=((F.loc j k r b q).1 t w).symm;rcases Ek j i with d | g | n
 ·have h:D j=true:=by
   rcases F.apart j i k o d b f with l | c
   ·exact l.in s f x (by omega)
   ·exact absurd v ((Du c).1 t a.symm)
  rw [h];simp [d]
 ·subst g;simp [u]
 ·have h:D j=false:=by
   rcases F.apart i j o k n f b with l | c
   ·cases p:D j with
    | false=>rfl
    | true=>have:=l D s p;rw [u] at this;cases this
   ·exact absurd v ((Du c).2.2 t a.symm)
  rw [h];simp;omega
theorem Am {D:Nat->Bool} (q:Down ops D) {i:Nat} {o:Oper} {r:Rec} (v:ops[i]?=some o) (l:recs[i]?=some r) (s:D i=false)
  (w:∀e∈o.after.toList,Region.binds .any e=true->D e.on=true) {b:Nat} (t:b∈r.rd):look (appD 0 recs D s0).H b=look (appD 0 recs (λm=>decide (m<i)) s0).H b:=by
 rw [wm,wm];refine pf recs 0 _ _ b _ λj n p u=>?_;simp only [cP];rcases Ek j i with c | d | h
 ·have f:D j=true:=by
   rcases F.blk j i n r c p l with g | a
   ·exact g.in q v w (by omega)
   ·exact absurd t (a.1 b u).1
  rw [f];simp [c]
 ·subst d;simp [s]
 ·have f:D j=false:=by
   rcases F.blk i j r n h l p with g | a
   ·cases k:D j with
    | false=>rfl
    | true=>have:=g D q k;rw [s] at this;cases this
   ·exact absurd u (a.2 b t)
  rw [f];simp;omega
theorem AB {D:Nat->Bool} (B:Down ops D) {i:Nat} {o:Oper} {r:Rec} (A:ops[i]?=some o) (f:recs[i]?=some r) (z:D i=false):
  Eqv ((appD 0 recs D s0).put r) (appD 0 recs (λj=>if j=i then true else D j) s0):=by
 have p:=(F.loc i o r A f).1;refine ⟨λt=>?_,λb=>?_,by rw [Ss,kr,kr],by show (appD 0 recs D s0).lo=_;rw [wM,wM],by show (appD 0 recs D s0).ro=_;rw [ir,ir],by show (appD 0 recs D s0).rb=_;rw [xe,xe]⟩
 ·rw [MM,yg,yg];by_cases l:r.dst=some t
  ·rw [ae l];symm;refine EG recs 0 i _ t _ r f (by simp) l λk g y c q=>?_;simp only [cP,show ¬k=i by omega,aC];obtain ⟨ok,m⟩:=xp F c;have s:=(F.loc k ok g m c).1;rcases F.apart i k o ok y A m with w | e
   ·cases d:D k with
    | false=>rfl
    | true=>have:=w D B d;rw [z] at this;cases this
   ·exact absurd (s t q) ((Du e).2.1 t (p t l))
  ·rw [ab l];refine su recs 0 _ _ t _ λj g h u=>?_;simp only [cP];by_cases a:j=i
   ·subst a;rw [f] at h;cases h;exact absurd u l
   ·simp [a]
 ·rw [LH,wm,wm];by_cases n:b∈keys r.wr
  ·obtain ⟨v,C⟩:=rA n;rw [C,Option.some_or];symm;rw [<-C];refine FL recs 0 i _ b _ r f (by simp) n λk g y c x=>?_;simp only [cP,show ¬k=i by omega,aC];rcases F.blk i k r g y f c with w | e
   ·cases d:D k with
    | false=>rfl
    | true=>have:=w D B d;rw [z] at this;cases this
   ·exact absurd x (e.1 b n).2
  ·rw [qH n,Eo];refine pf recs 0 _ _ b _ λj g h x=>?_;simp only [cP];by_cases a:j=i
   ·subst a;rw [f] at h;cases h;exact absurd x n
   ·simp [a]
theorem CO {kk:Nat} (y:∀j,kk<=j->j<ops.length->live j) {ι0:Inj} {w0:Base} {Q:Exit->Act->World->Prop} (U:∀ι a w,Inv n ι0 w0 ι (recs.foldl St.put s0) a w->Q .normal a w):
  ∀(fuel:Nat) (c:Array Bool) (ι:Inj) (a:Act) (w:World),c.size=ops.length->(∀j,j<kk->Dn c j=true)->Down ops (Dn c)->Inv n ι0 w0 ι (appD 0 recs (Dn c) s0) a w->
   (∀i,i<ops.length->Dn c i=false->∀b,nb0+8*i<=b->b<nb0+8*i+8->ι b=none)->((List.range ops.length).filter λi=>!Dn c i).length<=fuel->
   wpAny P .any ops.toArray Q fuel c a w:=by
 have fin:∀(c:Array Bool) (ι:Inj) (a:Act) (w:World),c.size=ops.length->Inv n ι0 w0 ι (appD 0 recs (Dn c) s0) a w->Region.ready .any ops.toArray c=[]->Q .normal a w:=by
  intro c ι a w hs s m;have C:∀j,j<ops.length->Dn c j=true:=by
   intro j
   induction j using Nat.strongRecOn with
   | _ j ih=>
    intro u;cases G:Dn c j with
    | true=>rfl
    | false=>
     have f:ops[j]?=some ops[j]:=by simp [u]
     have N:=zb hs f G λe M D=>ih e.on (F.down j _ e f M D) (by have:=F.down j _ e f M D;omega);rw [m] at N;cases N
  rw [zw recs 0 (Dn c) s0 λj u=>by simpa using C j (by rw [<-F.len];exact u)] at s;exact U ι a w s
 intro fuel
 induction fuel with
 | zero=>
  intro c ι a w hs v A s x hc;have m:Region.ready .any ops.toArray c=[]:=by
   rw [List.eq_nil_iff_forall_not_mem];intro i hi;obtain ⟨o,f,g,p,_⟩:=sM hs hi;have:i∈(List.range ops.length).filter λi=>!Dn c i:=by simp [g,p]
   have:=K5 this;omega
  exact ⟨m,fin c ι a w hs s m⟩
 | succ fuel ih=>
  intro c ι a w hs v A s x hc;refine ⟨fin c ι a w hs s,λi hi=>?_⟩;obtain ⟨o,f,g,p,H⟩:=sM hs hi;obtain ⟨r,m⟩:=vI F f;have B:=(F.loc i o r f m).2 (y i (by rcases aF i kk with h | h;(· have:=v i h;rw [p] at this;cases this);exact h) g);have d:Dn (c.setIfInBounds i true)=λj=>if j=i then true else Dn c j:=by
   funext j;exact yT (by omega) j
  have E:=B (appD 0 recs (Dn c) s0) (λt T=>zF F A f p H T) (λb D=>Am F A f m p H D) (by rw [kr,kr]) (by rw [ir,ir]) ι0 w0 ι a w s (x i g p)
   (wpAny P .any ops.toArray Q fuel (c.setIfInBounds i true)) Q λI S w' O R=>by
    refine ih _ I S w' (by simpa using hs) (λj u=>by rw [d];simp only;split;(· rfl);exact v j u) (by rw [d];exact A.add f H) (by rw [d];exact R.eqv (AB F A f m p)) (λj u l b L J=>?_) ?_
    ·rw [d] at l;by_cases k:j=i
     ·simp [k] at l
     ·simp only [k,aC] at l;rw [O b (by omega)];exact x j u l b L J
    ·have:((List.range ops.length).filter λj=>!Dn (c.setIfInBounds i true) j).length<((List.range ops.length).filter λj=>!Dn c j).length:=by
      rw [d];have z:((List.range ops.length).filter λj=>!(if j=i then true else Dn c j))=((List.range ops.length).filter λj=>!Dn c j).filter λj=>decide (j≠i):=by
       rw [EL];congr 1;funext j;by_cases k:j=i<;>simp [k]
      rw [z];refine Gw.2 ⟨i,by simp [g,p],by simp⟩
     omega
  unfold wpOp;have K:ops.toArray[i]?=some o:=by simpa using f
  rw [K];simp only;split
  ·rename_i q;rw [ae q] at E;exact .inl E
  ·rename_i q;rw [ab q] at E;exact E
theorem LO {lim kk:Nat} (D:lim<ops.length) (g:∀j,kk<=j->j<lim->live j/\Must ops j lim) (s:∀j,lim<j->j<ops.length->Must ops lim j) {ι0:Inj} {w0:Base} {Q:Exit->Act->World->Prop}
  (Y:∀(fuel:Nat) (c:Array Bool) (ι:Inj) (a:Act) (w:World),c.size=ops.length->(∀j,j<lim->Dn c j=true)->Dn c lim=false->Down ops (Dn c)->Down ops (Dn (c.setIfInBounds lim true))->
   Inv n ι0 w0 ι (appD 0 recs (Dn c) s0) a w->((List.range ops.length).filter λi=>!Dn c i).length<=fuel+1->wpOp P ops.toArray Q lim (wpAny P .any ops.toArray Q fuel (c.setIfInBounds lim true)) a w):
  ∀(fuel:Nat) (c:Array Bool) (ι:Inj) (a:Act) (w:World),c.size=ops.length->(∀j,j<kk->Dn c j=true)->Down ops (Dn c)->Dn c lim=false->Inv n ι0 w0 ι (appD 0 recs (Dn c) s0) a w->
   (∀i,i<ops.length->Dn c i=false->∀b,nb0+8*i<=b->b<nb0+8*i+8->ι b=none)->((List.range ops.length).filter λi=>!Dn c i).length<=fuel->
   wpAny P .any ops.toArray Q fuel c a w:=by
 have fin:∀(c:Array Bool),c.size=ops.length->Dn c lim=false->Region.ready .any ops.toArray c=[]->False:=by
  intro c hs hp q;have G:∀j,j<ops.length->Dn c j=true:=by
   intro j
   induction j using Nat.strongRecOn with
   | _ j ih=>
    intro x;cases K:Dn c j with
    | true=>rfl
    | false=>
     have f:ops[j]?=some ops[j]:=by simp [x]
     have T:=zb hs f K λe S H=>ih e.on (F.down j _ e f S H) (by have:=F.down j _ e f S H;omega);rw [q] at T;cases T
  rw [G lim D] at hp;cases hp
 intro fuel
 induction fuel with
 | zero=>
  intro c ι a w hs m k hp J z hc;have:lim∈(List.range ops.length).filter λi=>!Dn c i:=by simp [D,hp]
  have:=K5 this;omega
 | succ fuel ih=>
  intro c ι a w hs m k hp J z hc;refine ⟨λq=>(fin c hs hp q).elim,λi hi=>?_⟩;obtain ⟨o,f,v,y,A⟩:=sM hs hi;obtain ⟨r,q⟩:=vI F f;have d:Dn (c.setIfInBounds i true)=λj=>if j=i then true else Dn c j:=by
   funext j;exact yT (by omega) j
  by_cases C:i=lim
  ·subst C;refine Y fuel c ι a w hs (λj x=>?_) y k (by rw [d];exact k.add f A) J hc;rcases aF j kk with h | h
   ·exact m j h
   ·exact (g j h x).2.in k f A (by omega)
  have N:ops.toArray[i]?=some o:=by simpa using f
  unfold wpOp;rw [N];simp only;have hlt':i<lim:=by
   rcases aF i lim with h | h
   ·exact h
   ·have:=(s i (by omega) v).in k f A (λe=>C e.symm);rw [hp] at this;cases this
  have R:kk<=i:=by
   rcases aF i kk with h | h
   ·have:=m i h;rw [y] at this;cases this
   ·exact h
  have E:=(F.loc i o r f q).2 (g i R hlt').1
  have I:=E (appD 0 recs (Dn c) s0) (λt X=>zF F k f y A X) (λb H=>Am F k f q y A H) (by rw [kr,kr]) (by rw [ir,ir]) ι0 w0 ι a w J (z i v y)
   (wpAny P .any ops.toArray Q fuel (c.setIfInBounds i true)) Q λL W w' U V=>by
    refine ih _ L W w' (by simpa using hs) (λj x=>by rw [d];simp only;split;(· rfl);exact m j x) (by rw [d];exact k.add f A) (by rw [d];simp only [show ¬lim=i by omega,aC];exact hp) (by rw [d];exact V.eqv (AB F k f q y)) (λj x p b O M=>?_) ?_
    ·rw [d] at p;by_cases l:j=i
     ·simp [l] at p
     ·simp only [l,aC] at p;rw [U b (by omega)];exact z j x p b O M
    ·have:((List.range ops.length).filter λj=>!Dn (c.setIfInBounds i true) j).length<((List.range ops.length).filter λj=>!Dn c j).length:=by
      rw [d];have B:((List.range ops.length).filter λj=>!(if j=i then true else Dn c j))=((List.range ops.length).filter λj=>!Dn c j).filter λj=>decide (j≠i):=by
       rw [EL];congr 1;funext j;by_cases l:j=i<;>simp [l]
      rw [B];refine Gw.2 ⟨i,by simp [v,y],by simp⟩
     omega
  split
  ·rename_i u;rw [ae u] at I;exact .inl I
  ·rename_i u;rw [ab u] at I;exact I
theorem LM {lim:Nat} {ι0:Inj} {w0:Base} {Q:Exit->Act->World->Prop} {Y:Oper} {pr:Rec} {v:V} {wr:List (Nat×Blk)} (g:ops[lim]?=some Y) (G:recs[lim]?=some pr)
  (Z:xW P n nb0 ops lim Y v wr pr.rd (appD 0 recs (λm=>decide (m<lim)) s0))
  (y:∀j,j<ops.length->j≠lim->live j\/Must ops lim j)
  (hQ:∀D,Down ops D->(∀e∈Y.after.toList,Region.binds .any e=true->D e.on=true)->D lim=false->∀ι x a w,VR ι v x->Inv n ι0 w0 ι ((appD 0 recs D s0).app none none wr s0.nb) a w->Q (.panic [{ v:=x,recovered:=false }]) a w):
  ∀(fuel:Nat) (c:Array Bool) (ι:Inj) (a:Act) (w:World),c.size=ops.length->Down ops (Dn c)->Dn c lim=false->Inv n ι0 w0 ι (appD 0 recs (Dn c) s0) a w->
   (∀i,i<ops.length->Dn c i=false->∀b,nb0+8*i<=b->b<nb0+8*i+8->ι b=none)->((List.range ops.length).filter λi=>!Dn c i).length<=fuel->
   wpAny P .any ops.toArray Q fuel c a w:=by
 have I:lim<ops.length:=by
  rcases aF lim ops.length with S | S
  ·exact S
  ·rw [fW S] at g;cases g
 have fin:∀(c:Array Bool),c.size=ops.length->Dn c lim=false->Region.ready .any ops.toArray c=[]->False:=by
  intro c hs hp h;have K:∀j,j<ops.length->Dn c j=true:=by
   intro j
   induction j using Nat.strongRecOn with
   | _ j ih=>
    intro U;cases X:Dn c j with
    | true=>rfl
    | false=>
     have f:ops[j]?=some ops[j]:=by simp [U]
     have M:=zb hs f X λe he E=>ih e.on (F.down j _ e f he E) (by have:=F.down j _ e f he E;omega);rw [h] at M;cases M
  rw [K lim I] at hp;cases hp
 intro fuel
 induction fuel with
 | zero=>
  intro c ι a w hs p hp R s hc;have:lim∈(List.range ops.length).filter λi=>!Dn c i:=by simp [I,hp]
  have:=K5 this;omega
 | succ fuel ih=>
  intro c ι a w hs p hp R s hc;refine ⟨λh=>(fin c hs hp h).elim,λi hi=>?_⟩;obtain ⟨o,f,k,l,B⟩:=sM hs hi;obtain ⟨r,h⟩:=vI F f;have hoa:ops.toArray[i]?=some o:=by simpa using f
  unfold wpOp;rw [hoa];simp only;by_cases A:i=lim
  case neg=>
   rcases y i k A with T | M
   case inr=>
    have:=M.in p f B (λe=>A e.symm);rw [hp] at this;cases this
   have J:=(F.loc i o r f h).2 T;have d:Dn (c.setIfInBounds i true)=λj=>if j=i then true else Dn c j:=by
    funext j;exact yT (by omega) j
   have N:=J (appD 0 recs (Dn c) s0) (λt W=>zF F p f l B W) (λb E=>Am F p f h l B E) (by rw [kr,kr]) (by rw [ir,ir]) ι0 w0 ι a w R (s i k l)
    (wpAny P .any ops.toArray Q fuel (c.setIfInBounds i true)) Q λC a' w' O L=>by
     refine ih _ C a' w' (by simpa using hs) (by rw [d];exact p.add f B) (by rw [d];simp only [show ¬lim=i by omega,aC];exact hp) (by rw [d];exact L.eqv (AB F p f h l)) (λj U u b hb1 hb2=>?_) ?_
     ·rw [d] at u;by_cases q:j=i
      ·simp [q] at u
      ·simp only [q,aC] at u;rw [O b (by omega)];exact s j U u b hb1 hb2
     ·have:((List.range ops.length).filter λj=>!Dn (c.setIfInBounds i true) j).length<((List.range ops.length).filter λj=>!Dn c j).length:=by
       rw [d];have H:((List.range ops.length).filter λj=>!(if j=i then true else Dn c j))=((List.range ops.length).filter λj=>!Dn c j).filter λj=>decide (j≠i):=by
        rw [EL];congr 1;funext j;by_cases q:j=i<;>simp [q]
       rw [H];refine Gw.2 ⟨i,by simp [k,l],by simp⟩
      omega
   split
   ·rename_i z;rw [ae z] at N;exact .inl N
   ·rename_i z;rw [ab z] at N;exact N
  case pos=>
   subst A;rw [g] at f;cases f;rw [G] at h;cases h
   obtain ⟨q1,q2⟩:=Z (appD 0 recs (Dn c) s0) (λt W=>zF F p g l B W) (λb E=>Am F p g G l B E) (by rw [kr,kr]) (by rw [ir,ir]) ι0 w0 ι a w R (s i k l)
    (wpAny P .any ops.toArray Q fuel (c.setIfInBounds i true)) Q λC x w' O L=>hQ _ p B l C x a w' O (by rw [kr] at L;exact L)
   rw [ae q1];exact .inl q2
end
theorem Br:∀{l:List Nat} {j:Nat},l.length<=j->getN l j=0
 | [],_,_=>rfl
 | _::_,0,h=>by simp at h
 | _::l,j+1,h=>Br (l:=l) (by simpa using h)
theorem rG:∀{l m:List Nat} {j:Nat},j<l.length->getN (l++m) j=getN l j
 | [],_,_,h=>by simp at h
 | _::_,_,0,_=>rfl
 | _::l,m,j+1,h=>rG (l:=l) (m:=m) (by simpa using h)
theorem rO:∀(l:List Nat) (x:Nat),getN (l++[x]) l.length=x
 | [],_=>rfl
 | _::l,x=>rO l x
theorem si (acc:List Nat):∀(l:List Edge) (s i:Nat),(Bl acc l s).testBit i=true->s.testBit i=true\/∃e∈l,Region.binds .any e=true/\(e.on=i\/(getN acc e.on).testBit i=true)
 | [],s,i,h=>.inl h
 | e::l,s,i,h=>by
  simp only [Bl] at h;split at h
  ·rename_i f;rcases si acc l _ i h with a | ⟨c,b,d⟩
   ·simp only [Nat.testBit_or,gM] at a;rcases a with (a | a) | a
    ·exact .inl a
    ·refine .inr ⟨e,by simp,f,.inl ?_⟩;rw [Nat.testBit_two_pow] at a;simpa using a
    ·exact .inr ⟨e,by simp,f,.inr a⟩
   ·exact .inr ⟨c,eO _ b,d⟩
  ·rcases si acc l _ i h with a | ⟨c,b,d⟩
   ·exact .inl a
   ·exact .inr ⟨c,eO _ b,d⟩
theorem o9 (ops:List Oper):∀(r:List Oper) (acc:List Nat),(∀j,r[j]?=ops[acc.length+j]?)->(∀j i,(getN acc j).testBit i=true->Must ops i j)->
  ∀j i,(getN (jw r acc) j).testBit i=true->Must ops i j
 | [],acc,_,h=>h
 | o::r,acc,k,h=>by
  simp only [jw];refine o9 ops r _ (λj=>by have:=k (j+1);simp only [FR] at this;rw [this];simp;congr 1;omega) λj i a=>?_;rcases Ek j acc.length with g | d | q
  ·rw [rG g] at a;exact h j i a
  ·subst d;rw [rO] at a;have n:ops[acc.length]?=some o:=by have:=k 0;simpa using this.symm
   rcases si acc _ _ _ a with b | ⟨e,p,c,b⟩
   ·simp at b
   ·intro D l f;have m:=l acc.length o e n f p c;rcases b with rfl | b
    ·exact m
    ·exact h e.on i b D l m
  ·rw [Br (by simp;omega)] at a;simp at a
theorem iR:∀(l:List Oper) (i:Nat),qg i l=true->∀(j:Nat) (o:Oper) (e:Edge),l[j]?=some o->e∈o.after.toList->Region.binds .any e=true->e.on<i+j
 | [],_,_,_,_,_,h,_,_=>by simp at h
 | o::l,i,h,j,d,e,a,b,c=>by
  simp only [qg,az,co] at h;cases j with
  | zero=>
   simp only [kU,ak] at a;subst a;have:=h.1 e b;simp only [c,cX,pP] at this;exact aE this
  | succ j=>have:=iR l (i+1) h.2 j d e (by simpa using a) b c;omega
theorem rJ {ops:Array Oper} {o:Oper} {a:Nat}:∀(l:List Oper) (i:Nat),tH ops o a i l=true->∀(j:Nat) (p:Oper),l[j]?=some p->a.testBit (i+j)=true\/p.apart ops o=true
 | [],_,_,_,_,h=>by simp at h
 | q::l,i,h,j,p,b=>by
  simp only [tH,az,gM] at h;cases j with
  | zero=>simp only [kU,ak] at b;subst b;exact h.1
  | succ j=>have:=rJ l (i+1) h.2 j p (by simpa using b);rwa [show i+1+j=i+(j+1) by omega] at this
theorem lY {ops:Array Oper} {masks:List Nat}:∀(l a:List Oper),sZ ops masks a.length a l=true->∀(i j:Nat) (x y:Oper),i<a.length+j->(a++l)[i]?=some x->l[j]?=some y->
  (getN masks (a.length+j)).testBit i=true\/x.apart ops y=true
 | [],_,_,_,_,_,_,_,_,h=>by simp at h
 | o::l,a,h,i,j,x,y,hi,hx,hy=>by
  simp only [sZ,az] at h;cases j with
  | zero=>
   simp only [kU,ak] at hy;subst hy;have:=rJ a 0 h.1 i x (by rw [mQ (by simpa using hi)] at hx;exact hx);simpa using this
  | succ j=>
   have b:=h.2;rw [show a.length+1=(a++[o]).length by simp] at b;have:=lY l (a++[o]) b i j x y (by simp;omega) (by simpa using hx) (by simpa using hy);rwa [show (a++[o]).length+j=a.length+(j+1) by simp;omega] at this
theorem qp {masks:List Nat}:∀{tr:List TE},pu masks tr=true->∀x∈tr,∀y∈tr,x.i<y.i->xo masks x y=true\/xo masks y x=true
 | [],_,x,hx,_,_,_=>by cases hx
 | z::l,h,x,hx,y,hy,c=>by
  simp only [pu,az,co] at h;rcases cf.1 hx with b | b
  ·subst b;rcases cf.1 hy with a | a
   ·subst a;omega
   ·exact .inl (h.1 y a)
  ·rcases cf.1 hy with a | a
   ·subst a;exact .inr (h.1 x b)
   ·exact qp h.2 x b y a c
theorem wV {x y:TE} (h:QA x y=false):(∀b∈x.ws,b∉y.rd/\b∉y.ws)/\∀b∈x.rd,b∉y.ws:=by
 simp only [QA,n8,s9,gM,not_or,List.contains_iff_mem] at h;exact ⟨λb a=>h.1 b a,λb a=>h.2 b a⟩
theorem Bt {masks:List Nat} {x y:TE} (h:xo masks x y=true\/xo masks y x=true) (e:x.i<y.i):
  (getN masks y.i).testBit x.i=true\/((∀b∈x.ws,b∉y.rd/\b∉y.ws)/\∀b∈x.rd,b∉y.ws):=by
 have g:Nat.blt x.i y.i=true:=cr e;have j:Nat.blt y.i x.i=false:=by
  cases k:Nat.blt y.i x.i with
  | false=>rfl
  | true=>have:y.i<x.i:=aE k;omega
 rcases h with h | h
 ·simp only [xo,g,aj,gM,kP] at h;exact h.imp id wV
 ·simp only [xo,j,ah,gM,kP] at h;refine h.imp id λh=>?_;obtain ⟨a,b⟩:=wV h;exact ⟨λc hc=>⟨λf=>b c f hc,λd=>(a c d).2 hc⟩,λc hc d=>(a c d).1 hc⟩
theorem tX:∀(ops:List Oper) {T:List (Nat×Option V)} (t:Nat) (v:V),look (G6 ops T) t=some (some v)->(∀o∈ops,o.dst≠some t)/\look T t=some (some v)
 | [],T,t,v,h=>⟨by simp,h⟩
 | o::l,T,t,v,h=>by
  simp only [G6] at h;split at h
  ·rename_i d a;rw [aR] at h;split at h
   ·cases h
   ·rename_i c;obtain ⟨f,b⟩:=tX l t v h;refine ⟨λx hx=>?_,b⟩;rcases cf.1 hx with rfl | hx
    ·rw [a];intro e;cases e;exact c rfl
    ·exact f x hx
  ·rename_i a;obtain ⟨f,b⟩:=tX l t v h;refine ⟨λx hx=>?_,b⟩;rcases cf.1 hx with rfl | hx
   ·rw [a];intro e;cases e
   ·exact f x hx
theorem Hj {α:Type} {E:List Ent} (hE:∀x∈E,fp P x) {n:Nat} {ops:List Oper} {s:St} {k:Ex->St->Option α} {z:α} (h:D9 P E n ops s k=some z) (id:Nat):
  SemC P n (.region id ops.toArray true) s λex s'=>k ex s'=some z:=by
 intro ι0 w0 ι a w hI;unfold D9 at h;split at h
 case h_2=>cases h
 rename_i hok;simp only [az,Gu] at hok;obtain ⟨⟨hb1,hb2,_⟩,S⟩:=hok;have g:=o9 ops ops [] (by simp) (λj i u=>by simp [getN] at u);have hI1:Inv n ι0 w0 ι { s with nb:=s.nb+8*ops.length } a { w with drawn:=w.drawn+1 }:=by
  have d:=hI.drawn (w.drawn+1);exact ⟨d.size,d.defers,d.tmps,⟨d.mem.inj,λb r u=>by have:=d.mem.low b r u;simp only;omega,d.mem.dom,d.mem.blk⟩,d.ext,d.new,d.fr,d.low,d.fz,d.gl⟩
 have J:∀i,Dn (Array.replicate ops.toArray.size false) i=false:=by
  intro i;unfold Dn;simp only [qN,Rj];split<;>rfl
 have hno:∀(l:List Rec) (i:Nat) (D:Nat->Bool) (s:St),(∀j,D j=false)->appD i l D s=s:=by
  intro l
  induction l with
  | nil=>intros;rfl
  | cons r l ih=>intro i D s hD;simp only [appD,hD i,bA,aC];exact ih _ D s hD
 have C:∀(trf:List TE) (x y:Rec) (i j:Nat),pu (jw ops []) (trf.filter λx=>!(x.rd.isEmpty&&x.ws.isEmpty))=true->i<j->((⟨0+i,x.rd,keys x.wr⟩:TE)∈trf\/(x.rd=[]/\x.wr=[]))->((⟨0+j,y.rd,keys y.wr⟩:TE)∈trf\/(y.rd=[]/\y.wr=[]))->
   Must ops i j\/((∀b∈keys x.wr,b∉y.rd/\b∉keys y.wr)/\∀b∈x.rd,b∉keys y.wr):=by
  intro trf x y i j L B hx hy;rcases hx with hxm | ⟨hx1,hx2⟩
  ·rcases hy with hym | ⟨hy1,hy2⟩
   ·simp only [cP] at hxm hym;by_cases Z:(x.rd=[]/\x.wr=[])
    ·exact .inr (by simp [Z.1,Z.2,keys])
    ·by_cases he2:(y.rd=[]/\y.wr=[])
     ·exact .inr (by simp [he2.1,he2.2,keys])
     ·have m1:(⟨i,x.rd,keys x.wr⟩:TE)∈trf.filter λx=>!(x.rd.isEmpty&&x.ws.isEmpty):=by
       refine oL.2 ⟨hxm,?_⟩;simp only [keys,kP,BV,Fz];rcases FP (x.rd=[]) with h | h
       ·exact .inr (by simpa using λhw=>Z ⟨h,hw⟩)
       ·exact .inl h
      have m2:(⟨j,y.rd,keys y.wr⟩:TE)∈trf.filter λx=>!(x.rd.isEmpty&&x.ws.isEmpty):=by
       refine oL.2 ⟨hym,?_⟩;simp only [keys,kP,BV,Fz];rcases FP (y.rd=[]) with h | h
       ·exact .inr (by simpa using λhw=>he2 ⟨h,hw⟩)
       ·exact .inl h
      have:=Bt (qp L _ m1 _ m2 B) B;exact this.imp (g j i) λh=>h
   ·exact .inr (by simp [hy1,hy2,keys])
  ·exact .inr (by simp [hx1,hx2,keys])
 rcases Ar hE ops 0 _ [] (by simp) h with ⟨recs,Q,trf,g1,R,O,_,g5,g6⟩ | ⟨p,po,recs,Q,sp,trf,v,wr,rp,g1,g0,gr,gd,gw,rfl,R,O,_,g7,g5,g6⟩
 ·split at R
  case h_2=>cases R
  rename_i L;have F:DrawFacts P n s.nb ops recs { s with nb:=s.nb+8*ops.length } (λ_=>True):=by
   refine ⟨g1,rfl,λj o r N U=>?_,λj o e N he u=>?_,λi j x y B hx hy=>?_,λi j x y B hx hy=>?_⟩
   ·obtain ⟨p1,p2⟩:=g6 j o r N U;simp only [cP] at p2;have e:=qy recs 0 j { s with nb:=s.nb+8*ops.length };simp only [cP] at e;exact ⟨λt Y=>p1▸Y,λ_=>p2.eqv e⟩
   ·have:=iR ops 0 hb1 j o e N he u;omega
   ·have:=lY (masks:=jw ops []) ops [] hb2 i j x y (by simpa using B) (by simpa using hx) hy;simp only [dP,cP] at this;exact this.imp (g j i) λh=>h
   ·exact C trf x y i j L B (g5 i x hx) (g5 j y hy)
  refine wp_region_any S (CO (kk:=0) F (λ_ _ _=>trivial) (λM a' w' f=>⟨.normal,Q,M,rfl,f.eqv O.symm,R⟩) _ _ ι a _ (by simp) (λj W=>by omega) (λj o e _ I=>by rw [J j] at I;cases I) (by rw [hno recs 0 _ _ J];exact hI1) (λi _ _ b u _=>?_) ?_)
  ·exact hI.fresh b (by omega)
  ·have:=HU (λi=>!Dn (Array.replicate ops.toArray.size false) i) (List.range ops.length);simpa using this
 ·split at R
  case h_2=>cases R
  rename_i hpk;simp only [az,UQ] at hpk;obtain ⟨hw,L⟩:=hpk;simp only [cP] at R g7 hw;have B:p<ops.length:=by
   rcases aF p ops.length with h' | h'
   ·exact h'
   ·rw [fW h'] at g0;cases g0
  have A:∀i r,recs[i]?=some r->i≠p->(i<p/\Must ops i p)\/r.wr=[]:=by
   intro i r U K;rcases g5 i r U K with hx | hx
   ·have:=(co.1 hw) _ hx;simp only [cP,gM,az] at this;rcases this with h | h
    ·right;simpa [keys] using h
    ·exact .inl ⟨aE h.1,g p i h.2⟩
   ·exact .inr hx.2
  have g5':∀(j:Nat) (r:Rec),recs[j]?=some r->j≠p->(⟨0+j,r.rd,keys r.wr⟩:TE)∈trf\/(r.rd=[]/\r.wr=[]):=g5;have F:DrawFacts P n s.nb ops recs { s with nb:=s.nb+8*ops.length } (λj=>j<p\/(p<j/\(getN (jw ops []) (0+j)).testBit (0+p)=false)):=by
   refine ⟨g1,rfl,λj o r N U=>?_,λj o e N he u=>?_,λi j x y X hx hy=>?_,λi j x y X hx hy=>?_⟩
   ·obtain ⟨p1,p2⟩:=g6 j o r N U;have e:=qy recs 0 j { s with nb:=s.nb+8*ops.length };simp only [cP] at e p2 ⊢;exact ⟨λt Y=>p1▸Y,λhc=>(p2 hc).eqv e⟩
   ·have:=iR ops 0 hb1 j o e N he u;omega
   ·have:=lY (masks:=jw ops []) ops [] hb2 i j x y (by simpa using X) (by simpa using hx) hy;simp only [dP,cP] at this;exact this.imp (g j i) λh=>h
   ·by_cases K:i=p
    ·
     subst K;rw [gr] at hx;cases hx;rcases A j y hy (by omega) with ⟨h,_⟩ | h
     ·omega
     ·exact .inr (by simp [gw,h,keys])
    ·by_cases G:j=p
     ·subst G;rw [gr] at hy;cases hy;rcases A i x hx K with ⟨_,h⟩ | h
      ·exact .inl h
      ·exact .inr (by simp [gw,h,keys])
     ·exact C trf x y i j L X (g5 i x hx K) (g5 j y hy G)
  have c:Eqv ((recs.take p).foldl St.put { s with nb:=s.nb+8*ops.length }) (appD 0 recs (λm=>decide (m<p)) { s with nb:=s.nb+8*ops.length }):=by
   have e:=qy recs 0 p { s with nb:=s.nb+8*ops.length };simpa using e
  have V:∀j,j<ops.length->j≠p->(j<p\/(p<j/\(getN (jw ops []) (0+j)).testBit (0+p)=false))\/Must ops p j:=by
   intro j _ hne;cases u:(getN (jw ops []) (0+j)).testBit (0+p) with
   | false=>exact .inl ((Nat.lt_or_gt_of_ne hne).imp (λh=>h) λh=>⟨h,rfl⟩)
   | true=>simp only [cP] at u;exact .inr (g j p u)
  refine wp_region_any S (LM F g0 gr (g7.eqv c) V (λD hD hd hn M x a' w' hv f=>⟨.pan v,_,M,⟨x,rfl,hv⟩,?inv,R⟩) _ _ ι a _ (by simp) (λj o e _ I=>by rw [J j] at I;cases I) (J p) (by rw [hno _ 0 _ _ J];exact hI1) (λi _ _ b u _=>?fresh) ?len)
  case inv=>
   have hH:∀b,look Q.H b=look (appD 0 recs D { s with nb:=s.nb+8*ops.length }).H b:=by
    intro b;rw [O.H,c.H,wm,wm];refine pf _ 0 _ _ b _ λj r W u=>?_;simp only [cP];by_cases G:j=p
    ·subst G;rw [gr] at W;cases W;rw [gw] at u;simp [keys] at u
    ·rcases A j r W G with ⟨d,hm⟩ | hm
     ·rw [hm.in hD g0 hd (by omega)];simp [d]
     ·rw [hm] at u;simp [keys] at u
   have hT:∀t v,look (G6 ops s.T) t=some (some v)->look (appD 0 recs D { s with nb:=s.nb+8*ops.length }).T t=some (some v):=by
    intro t v Y;obtain ⟨d,h2⟩:=tX ops t v Y;rw [yg,yf _ 0 D t _ λj r W U=>?_]
    ·exact h2
    ·exfalso;obtain ⟨o,N⟩:=xp F W;exact d o (f7 N) ((F.loc j o r N W).1 t U)
   refine ⟨f.size,f.defers,λt v Y=>f.tmps t v (hT t v Y),⟨f.mem.inj,λb r u=>?_,f.mem.dom,λb blk hl hdd=>f.mem.blk b blk ?_ hdd⟩,?_,f.new,?_,λb r u=>?_,?_,?_⟩
   ·have:=f.mem.low b r u;have e:=O.nb.trans c.nb;rw [kr] at e;show b<Q.nb;rw [e];exact this
   ·show look (wr++(appD 0 recs D { s with nb:=s.nb+8*ops.length }).H) b=_;rw [oz,<-hH b,<-oz];exact hl
   ·have e:=O.rb.trans c.rb;rw [xe] at e;have d:=f.ext;show ∀b q,ι0 b=some q->M b=some q\/Q.rb<=b;rw [e];simp only [St.app,xe] at d;exact d
   ·have e:=O.ro.trans c.ro;rw [ir] at e;have d:=f.fr;show Fr (roI ι0 Q.ro) w0.w w';rw [e];simp only [St.app,ir] at d;exact d
   ·have e:=O.lo.trans c.lo;rw [wM] at e;have d:=f.low b r u;show b<Q.lo;rw [e];simp only [St.app,wM] at d;exact d
   ·have e:=O.ro.trans c.ro;rw [ir] at e;have d:=f.fz;show ∀b q,M b=some (some q)->q.fz=true->b<Q.ro;rw [e];simp only [St.app,ir] at d;exact d
   ·have e:=O.ro.trans c.ro;rw [ir] at e;have d:=f.gl;show GL (roI ι0 Q.ro) w0.w;rw [e];simp only [St.app,ir] at d;exact d
  case fresh=>exact hI.fresh b (by omega)
  case len=>
   have:=HU (λi=>!Dn (Array.replicate ops.toArray.size false) i) (List.range ops.length);simpa using this
end Go.Abs
