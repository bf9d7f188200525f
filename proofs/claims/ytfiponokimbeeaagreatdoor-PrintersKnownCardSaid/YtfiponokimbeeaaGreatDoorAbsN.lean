
/- A region that draws its order: where what is unordered does not meet, every order comes to what the order of the text comes to.
   Conditions: none; generic over the program. -/
import Derived.Test.YtfiponokimbeeaaGreatDoorAbsM
set_option linter.unusedSimpArgs false
set_option linter.unusedVariables false
namespace Go.Abs
variable {P:Program}
structure Rec where
 dst:Option Nat
 val:Option V
 wr:List (Nat×Blk)
 rd:List Nat
def St.put (s:St) (r:Rec):St:=s.app r.dst r.val r.wr s.nb
def keys (wr:List (Nat×Blk)):List Nat:=wr.map (·.1)
theorem pL {α:Type} (l m:List (Nat×α)) (n:Nat):look (l++m) n=(look l n).or (look m n):=by
 induction l with
 | nil=>rfl
 | cons x l ih=>
  obtain ⟨k,v⟩:=x;rw [eI,aU,aU];split
  ·rfl
  ·exact ih
theorem qL {α:Type} {l:List (Nat×α)} {n:Nat} (h:n∉l.map (·.1)):look l n=none:=by
 induction l with
 | nil=>rfl
 | cons x l ih=>
  obtain ⟨k,v⟩:=x;simp only [fX,dr,not_or] at h;rw [aU,ab (λe=>h.1 e.symm)];exact ih h.2
theorem rO {α:Type} {l:List (Nat×α)} {n:Nat} (h:n∈l.map (·.1)):∃v,look l n=some v:=by
 induction l with
 | nil=>simp at h
 | cons x l ih=>
  obtain ⟨k,v⟩:=x;rw [aU];split
  ·exact ⟨v,rfl⟩
  ·rename_i a;simp only [fX,dr] at h;exact ih (h.resolve_left λe=>a e.symm)
theorem O6 (s:St) (r:Rec) (t:Nat):look (s.put r).T t=if r.dst=some t then some r.val else look s.T t:=by
 unfold St.put St.app;cases a:r.dst with
 | none=>simp
 | some d=>
  simp only [aU];by_cases h:d=t
  ·subst h;simp
  ·simp [h]
theorem PM (s:St) (r:Rec) (b:Nat):look (s.put r).H b=(look r.wr b).or (look s.H b):=pL _ _ _
theorem UX (s:St) (r:Rec):(s.put r).nb=s.nb:=rfl
structure Eqv (s s':St):Prop where
 T:∀t,look s.T t=look s'.T t
 H:∀b,look s.H b=look s'.H b
 nb:s.nb=s'.nb
 lo:s.lo=s'.lo
 ro:s.ro=s'.ro
 rb:s.rb=s'.rb
theorem Eqv.refl (s:St):Eqv s s:=⟨λ_=>rfl,λ_=>rfl,rfl,rfl,rfl,rfl⟩
theorem Eqv.symm {s s':St} (h:Eqv s s'):Eqv s' s:=⟨λt=>(h.T t).symm,λb=>(h.H b).symm,h.nb.symm,h.lo.symm,h.ro.symm,h.rb.symm⟩
theorem Eqv.trans {a b c:St} (h:Eqv a b) (k:Eqv b c):Eqv a c:=⟨λt=>(h.T t).trans (k.T t),λt=>(h.H t).trans (k.H t),h.nb.trans k.nb,h.lo.trans k.lo,h.ro.trans k.ro,h.rb.trans k.rb⟩
theorem Eqv.put {s s':St} (h:Eqv s s') (r:Rec):Eqv (s.put r) (s'.put r):=
 ⟨λt=>by rw [O6,O6,h.T],λb=>by rw [PM,PM,h.H],h.nb,h.lo,h.ro,h.rb⟩
theorem Eqv.puts:∀(l:List Rec) {s s':St},Eqv s s'->Eqv (l.foldl St.put s) (l.foldl St.put s')
 | [],_,_,h=>h
 | r::l,_,_,h=>Eqv.puts l (h.put r)
theorem Inv.eqv {n:Nat} {ι0 ι:Inj} {w0:Base} {s s':St} {a:Act} {w:World} (h:Inv n ι0 w0 ι s a w) (e:Eqv s s'):Inv n ι0 w0 ι s' a w:=
 ⟨h.size,h.defers,λt v G=>h.tmps t v (by rw [e.T];exact G),⟨h.mem.inj,λb r C=>by rw [<-e.nb];exact h.mem.low b r C,h.mem.dom,λb blk F E=>h.mem.blk b blk (by rw [e.H];exact F) E⟩,by rw [<-e.rb];exact h.ext,h.new,by rw [<-e.ro];exact h.fr,λb r C=>by rw [<-e.lo];exact h.low b r C,by rw [<-e.ro];exact h.fz,by rw [<-e.ro];exact h.gl⟩
def appD:Nat->List Rec->(Nat->Bool)->St->St
 | _,[],_,s=>s
 | i,r::l,D,s=>appD (i+1) l D (if D i=true then s.put r else s)
def yx:Nat->List Rec->(Nat->Bool)->Nat->Option (Option V)->Option (Option V)
 | _,[],_,_,x=>x
 | i,r::l,D,t,x=>yx (i+1) l D t (if D i=true/\r.dst=some t then some r.val else x)
def xR:Nat->List Rec->(Nat->Bool)->Nat->Option Blk->Option Blk
 | _,[],_,_,x=>x
 | i,r::l,D,b,x=>xR (i+1) l D b (if D i=true then (look r.wr b).or x else x)
theorem ze:∀(l:List Rec) (i:Nat) (D:Nat->Bool) (s:St) (t:Nat),look (appD i l D s).T t=yx i l D t (look s.T t)
 | [],_,_,_,_=>rfl
 | r::l,i,D,s,t=>by
  simp only [appD,yx,ze l];congr 1;cases D i
  ·simp
  ·simp only [jI,aJ];rw [O6]
theorem yw:∀(l:List Rec) (i:Nat) (D:Nat->Bool) (s:St) (b:Nat),look (appD i l D s).H b=xR i l D b (look s.H b)
 | [],_,_,_,_=>rfl
 | r::l,i,D,s,b=>by
  simp only [appD,xR,yw l];congr 1;cases D i
  ·simp
  ·simp only [aJ];rw [PM]
theorem lS:∀(l:List Rec) (i:Nat) (D:Nat->Bool) (s:St),(appD i l D s).nb=s.nb
 | [],_,_,_=>rfl
 | r::l,i,D,s=>by
  simp only [appD,lS l];split<;>rfl
theorem jo:∀(l:List Rec) (i:Nat) (D:Nat->Bool) (s:St),(appD i l D s).ro=s.ro
 | [],_,_,_=>rfl
 | r::l,i,D,s=>by
  simp only [appD,jo l];split<;>rfl
theorem xQ:∀(l:List Rec) (i:Nat) (D:Nat->Bool) (s:St),(appD i l D s).lo=s.lo
 | [],_,_,_=>rfl
 | r::l,i,D,s=>by
  simp only [appD,xQ l];split<;>rfl
theorem xm:∀(l:List Rec) (i:Nat) (D:Nat->Bool) (s:St),(appD i l D s).rb=s.rb
 | [],_,_,_=>rfl
 | r::l,i,D,s=>by
  simp only [appD,xm l];split<;>rfl
theorem sT:∀(l:List Rec) (i:Nat) (D a:Nat->Bool) (t:Nat) (x:Option (Option V)),(∀j r,l[j]?=some r->r.dst=some t->D (i+j)=a (i+j))->yx i l D t x=yx i l a t x
 | [],_,_,_,_,_,_=>rfl
 | r::l,i,D,a,t,x,h=>by
  simp only [yx];have b:=h 0 r (by simp);simp only [cN] at b;rw [sT l (i+1) D a t _ λj f e d=>by have:=h (j+1) f (by simpa using e) d;rwa [show i+(j+1)=i+1+j by omega] at this];congr 1;by_cases c:r.dst=some t
  ·rw [b c]
  ·simp [c]
theorem zr (l:List Rec) (i:Nat) (D:Nat->Bool) (t:Nat) (x:Option (Option V)) (h:∀j r,l[j]?=some r->r.dst=some t->D (i+j)=false):yx i l D t x=x:=by
 induction l generalizing i x with
 | nil=>rfl
 | cons r l ih=>
  simp only [yx];have b:=h 0 r (by simp);simp only [cN] at b;have:¬(D i=true/\r.dst=some t):=λ⟨a,f⟩=>by rw [b f] at a;cases a
  rw [ab this];exact ih (i+1) x λj e d c=>by have:=h (j+1) e (by simpa using d) c;rwa [show i+(j+1)=i+1+j by omega] at this
theorem GH:∀(l:List Rec) (i j:Nat) (D:Nat->Bool) (t:Nat) (x:Option (Option V)) (r:Rec),l[j]?=some r->D (i+j)=true->r.dst=some t->
  (∀k b,j<k->l[k]?=some b->b.dst=some t->D (i+k)=false)->yx i l D t x=some r.val
 | [],_,_,_,_,_,_,h,_,_,_=>by simp at h
 | r0::l,i,0,D,t,x,r,h,e,d,a=>by
  simp only [mB,au] at h;subst h;simp only [cN] at e;simp only [yx];rw [ae ⟨e,d⟩];exact zr l (i+1) D t _ λk b f c=>by have:=a (k+1) b (by omega) (by simpa using f) c;rwa [show i+(k+1)=i+1+k by omega] at this
 | r0::l,i,j+1,D,t,x,r,h,e,d,a=>by
  simp only [yx]
  exact GH l (i+1) j D t _ r (by simpa using h) (by rwa [show i+1+j=i+(j+1) by omega]) d λk b f g c=>by
   have:=a (k+1) b (by omega) (by simpa using g) c;rwa [show i+(k+1)=i+1+k by omega] at this
theorem pT:∀(l:List Rec) (i:Nat) (D a:Nat->Bool) (b:Nat) (x:Option Blk),(∀j r,l[j]?=some r->b∈keys r.wr->D (i+j)=a (i+j))->xR i l D b x=xR i l a b x
 | [],_,_,_,_,_,_=>rfl
 | r::l,i,D,a,b,x,h=>by
  simp only [xR];have c:=h 0 r (by simp);simp only [cN] at c;rw [pT l (i+1) D a b _ λj g f e=>by have:=h (j+1) g (by simpa using f) e;rwa [show i+(j+1)=i+1+j by omega] at this];congr 1;by_cases d:b∈keys r.wr
  ·rw [c d]
  ·simp [qL d]
theorem Ik (l:List Rec) (i:Nat) (D:Nat->Bool) (b:Nat) (x:Option Blk) (h:∀j r,l[j]?=some r->b∈keys r.wr->D (i+j)=false):xR i l D b x=x:=by
 induction l generalizing i x with
 | nil=>rfl
 | cons r l ih=>
  simp only [xR];have a:=h 0 r (by simp);simp only [cN] at a;have:(if D i=true then (look r.wr b).or x else x)=x:=by
   by_cases c:b∈keys r.wr
   ·rw [a c];simp
   ·rw [qL c];simp
  rw [this];exact ih (i+1) x λj f e d=>by have:=h (j+1) f (by simpa using e) d;rwa [show i+(j+1)=i+1+j by omega] at this
theorem HG:∀(l:List Rec) (i j:Nat) (D:Nat->Bool) (b:Nat) (x:Option Blk) (r:Rec),l[j]?=some r->D (i+j)=true->b∈keys r.wr->
  (∀k c,j<k->l[k]?=some c->b∈keys c.wr->D (i+k)=false)->xR i l D b x=look r.wr b
 | [],_,_,_,_,_,_,h,_,_,_=>by simp at h
 | r0::l,i,0,D,b,x,r,h,f,e,a=>by
  simp only [mB,au] at h;subst h;simp only [cN] at f;simp only [xR];obtain ⟨v,n⟩:=rO e;rw [ae f,n];exact Ik l (i+1) D b _ λk c g d=>by have:=a (k+1) c (by omega) (by simpa using g) d;rwa [show i+(k+1)=i+1+k by omega] at this
 | r0::l,i,j+1,D,b,x,r,h,f,e,a=>by
  simp only [xR]
  exact HG l (i+1) j D b _ r (by simpa using h) (by rwa [show i+1+j=i+(j+1) by omega]) e λk c g m d=>by
   have:=a (k+1) c (by omega) (by simpa using m) d;rwa [show i+(k+1)=i+1+k by omega] at this
theorem qy:∀(l:List Rec) (i j:Nat) (s:St),Eqv ((l.take j).foldl St.put s) (appD i l (λm=>decide (m<i+j)) s)
 | [],i,j,s=>by simp [appD];exact Eqv.refl s
 | r::l,i,0,s=>by
  have:∀(l:List Rec) (i a:Nat) (s:St),i<=a->appD a l (λm=>decide (m<i)) s=s:=by
   intro l
   induction l with
   | nil=>intros;rfl
   | cons r l ih=>intro i a s h;simp only [appD,show ¬a<i by omega,nD,br,aA];exact ih i (a+1) s (by omega)
  simp only [mH,Hj,cN];rw [this (r::l) i i s (aY _)];exact Eqv.refl s
 | r::l,i,j+1,s=>by
  simp only [nF,vf,appD,show i<i+(j+1) by omega,oh,aJ];have:=qy l (i+1) j (s.put r);rwa [show (λm=>decide (m<i+1+j))=λm=>decide (m<i+(j+1)) by funext m;simp only [nU];omega] at this
theorem AG:∀(l:List Rec) (i:Nat) (D:Nat->Bool) (s:St),(∀j,j<l.length->D (i+j)=true)->appD i l D s=l.foldl St.put s
 | [],_,_,_,_=>rfl
 | r::l,i,D,s,h=>by
  have a:=h 0 (by simp);simp only [cN] at a;simp only [appD,a,aJ,vf];exact AG l (i+1) D _ λj b=>by have:=h (j+1) (by simpa using b);rwa [show i+(j+1)=i+1+j by omega] at this
def va (P:Program) (n nb0:Nat) (ops:List Oper) (i:Nat) (o:Oper) (r:Rec) (base:St):Prop:=
 ∀s':St,(∀t∈o.looksAt ops.toArray,look s'.T t=look base.T t)->(∀b∈r.rd,look s'.H b=look base.H b)->s'.nb=base.nb->s'.ro=base.ro->
  ∀(ι0:Inj) (w0:Base) (ι:Inj) (a:Act) (w:World),Inv n ι0 w0 ι s' a w->(∀b,nb0+8*i<=b->b<nb0+8*i+8->ι b=none)->∀(K:Act->World->Prop) (Q:Exit->Act->World->Prop),
   (∀c d w',(∀b,(b<nb0+8*i\/nb0+8*i+8<=b)->c b=ι b)->Inv n ι0 w0 c (s'.put r) d w'->K d w')->
   if Region.wanted o (yielded ops.toArray a.tmps) then o.wp P a w K Q else K (a.put o.dst undef) w
def zF (P:Program) (n nb0:Nat) (ops:List Oper) (i:Nat) (o:Oper) (v:V) (wr:List (Nat×Blk)) (rd:List Nat) (base:St):Prop:=
 ∀s':St,(∀t∈o.looksAt ops.toArray,look s'.T t=look base.T t)->(∀b∈rd,look s'.H b=look base.H b)->s'.nb=base.nb->s'.ro=base.ro->
  ∀(ι0:Inj) (w0:Base) (ι:Inj) (a:Act) (w:World),Inv n ι0 w0 ι s' a w->(∀b,nb0+8*i<=b->b<nb0+8*i+8->ι b=none)->∀(K:Act->World->Prop) (Q:Exit->Act->World->Prop),
   (∀c x w',VR c v x->Inv n ι0 w0 c (s'.app none none wr s'.nb) a w'->Q (.panic [{ v:=x,recovered:=false }]) a w')->
   Region.wanted o (yielded ops.toArray a.tmps)=true/\o.wp P a w K Q
theorem zF.eqv {n nb0:Nat} {ops:List Oper} {i:Nat} {o:Oper} {v:V} {wr:List (Nat×Blk)} {rd:List Nat} {base C:St} (h:zF P n nb0 ops i o v wr rd base) (e:Eqv base C):zF P n nb0 ops i o v wr rd C:=
 λs' G O E Q=>h s' (λt F=>by rw [G t F,e.T]) (λb J=>by rw [O b J,e.H]) (by rw [E,e.nb]) (by rw [Q,e.ro])
theorem va.eqv {n nb0:Nat} {ops:List Oper} {i:Nat} {o:Oper} {r:Rec} {base C:St} (h:va P n nb0 ops i o r base) (e:Eqv base C):va P n nb0 ops i o r C:=
 λs' G O E Q=>h s' (λt F=>by rw [G t F,e.T]) (λb J=>by rw [O b J,e.H]) (by rw [E,e.nb]) (by rw [Q,e.ro])
theorem zR {α:Type} {ops:List Oper} {o:Oper} {s:St} {k:Bool->St->Option α} {z:α} (h:wY ops o s k=some z):
  ∃c r,k c r=some z/\Eqv r s/\∀s':St,(∀t∈o.looksAt ops.toArray,look s'.T t=look s.T t)->∀(n:Nat) (ι0 ι:Inj) (w0:Base) (a:Act) (w:World),Inv n ι0 w0 ι s' a w->
   Region.wanted o (yielded ops.toArray a.tmps)=c:=by
 unfold wY at h;split at h
 ·rename_i l;exact ⟨true,s,h,Eqv.refl s,λ_ _ _ _ _ _ _ _ _=>by simp [Region.wanted,l]⟩
 ·rename_i j c l;split at h
  case h_2=>cases h
  rename_i d i;have f:d∈o.looksAt ops.toArray:=by
   unfold Oper.looksAt;unfold gtmp at i;split at i
   ·rename_i u q;simp [l,q,i]
   ·cases i
  have again:∀x,look s.T d=some (some (.b x))->Eqv { s with T:=(d,some (V.b x))::s.T } s:=by
   intro x hx;refine ⟨λt=>?_,λ_=>rfl,rfl,rfl,rfl,rfl⟩;show look ((d,some (V.b x))::s.T) t=look s.T t;rw [aU];split
   ·rename_i e;subst e;exact hx.symm
   ·rfl
  split at h
  ·rename_i x hx;cases x
   ·refine ⟨!c,_,h,again _ hx,λs' hs n ι0 ι w0 a w p=>?_⟩;obtain ⟨y,m,g⟩:=p.tmps d _ (by rw [hs d f];exact hx);simp only [VR] at g;subst g;have hy:=rq i a.tmps;rw [m] at hy;cases c<;>simp [Region.wanted,l,hy]
   ·refine ⟨c,_,h,again _ hx,λs' hs n ι0 ι w0 a w p=>?_⟩;obtain ⟨y,m,g⟩:=p.tmps d _ (by rw [hs d f];exact hx);simp only [VR] at g;subst g;have hy:=rq i a.tmps;rw [m] at hy;cases c<;>simp [Region.wanted,l,hy]
  ·rename_i hx;refine ⟨false,s,h,Eqv.refl s,λs' hs n ι0 ι w0 a w p=>?_⟩;obtain ⟨y,m,g⟩:=p.tmps d _ (by rw [hs d f];exact hx);simp only [VR] at g;obtain ⟨v,rfl,_⟩:=g;have hy:=rq i a.tmps;rw [m] at hy;simp [Region.wanted,l,hy]
  ·cases h
theorem yi {ops:Array Oper} {o:Oper} {s s':St} (h:∀t∈o.looksAt ops,look s'.T t=look s.T t):∀x∈o.op.operands.toList,opd s'.T x=opd s.T x:=by
 intro x hx;cases x with
 | tmp t=>
  have:=h t (by
   unfold Oper.looksAt;simp only [n7,List.mem_filterMap];exact .inl ⟨.tmp t,hx,rfl⟩)
  simp only [opd,this]
 | _=>rfl
theorem LR {α:Type} {E:List Ent} (V:∀x∈E,fF P x) {n nb0:Nat} {ops:List Oper} {masks:List Nat} {p:Nat} {k:List TE->Option α} {z:α}:∀(l:List Oper) (i:Nat) (s:St) (tr:List TE),
  nb0+8*(i+l.length)<=s.nb->runB P E n nb0 ops masks p i l s tr k=some z->
  ∃(recs:List Rec) (trf:List TE),recs.length=l.length/\k trf=some z/\(∀x∈tr,x∈trf)/\
   (∀j r,recs[j]?=some r->(⟨i+j,r.rd,keys r.wr⟩:TE)∈trf\/(r.rd=[]/\r.wr=[]))/\
   ∀(j:Nat) (o:Oper) (r:Rec),l[j]?=some o->recs[j]?=some r->r.dst=o.dst/\((getN masks (i+j)).testBit p=false->va P n nb0 ops (i+j) o r ((recs.take j).foldl St.put s))
 | [],i,s,tr,C,h=>⟨[],tr,rfl,h,λ_ h=>h,λj r h=>by simp at h,λj o r h=>by simp at h⟩
 | o::l,i,s,tr,C,h=>by
  simp only [aC] at C;simp only [runB] at h;have more:∀(e:Rec) (c:List TE) (y:St),e.dst=o.dst->((getN masks i).testBit p=false->va P n nb0 ops i o e s)->Eqv y (s.put e)->s.nb<=y.nb->(∀x∈tr,x∈c)->((⟨i,e.rd,keys e.wr⟩:TE)∈c\/(e.rd=[]/\e.wr=[]))->
    runB P E n nb0 ops masks p (i+1) l y c k=some z->∃(recs:List Rec) (trf:List TE),recs.length=(o::l).length/\k trf=some z/\(∀x∈tr,x∈trf)/\
   (∀j r,recs[j]?=some r->(⟨i+j,r.rd,keys r.wr⟩:TE)∈trf\/(r.rd=[]/\r.wr=[]))/\
   ∀(j:Nat) (G:Oper) (r:Rec),(o::l)[j]?=some G->recs[j]?=some r->r.dst=G.dst/\((getN masks (i+j)).testBit p=false->va P n nb0 ops (i+j) G r ((recs.take j).foldl St.put s)):=by
   intro e c y R hl e2 X O N h;obtain ⟨recs,trf,g1,g2,Z,g5,g6⟩:=LR V l (i+1) y c (by omega) h;refine ⟨e::recs,trf,by simp [g1],g2,λx hx=>Z x (O x hx),λj r m=>?_,λj G r L m=>?_⟩
   ·cases j with
    | zero=>simp only [mB,au] at m;subst m;exact N.imp (Z _) id
    | succ j=>have:=g5 j r (by simpa using m);rwa [show i+1+j=i+(j+1) by omega] at this
   ·cases j with
    | zero=>
     simp only [mB,au] at L m;subst L m;exact ⟨R,hl⟩
    | succ j=>
     obtain ⟨p1,p2⟩:=g6 j G r (by simpa using L) (by simpa using m);rw [show i+1+j=i+(j+1) by omega] at p2;exact ⟨p1,λq=>(p2 q).eqv (by simpa using Eqv.puts (recs.take j) e2)⟩
  split at h
  ·rename_i D;exact more ⟨o.dst,none,[],[]⟩ tr (s.app o.dst none [] s.nb) rfl (λq=>by rw [D] at q;cases q) (Eqv.refl _) (aY _) (λ_ h=>h) (.inr ⟨rfl,rfl⟩) h
  obtain ⟨I,B,h,u,Y⟩:=zR h;have d:B.nb=s.nb:=u.nb;cases I
  ·simp only at h;split at h
   case h_2=>cases h
   rename_i R;refine more ⟨o.dst,some (.tp []),[],[]⟩ tr (B.app o.dst (some (.tp [])) [] B.nb) rfl (λ_ s' J W q3 q4 ι0 w0 ι a w F A K Q S=>?_) (u.put ⟨o.dst,some (.tp []),[],[]⟩) (wC d.symm) (λ_ h=>h) (.inr ⟨rfl,rfl⟩) h;rw [Y s' J n ι0 ι w0 a w F];simp only [br,aA];exact S ι _ _ (λ_ _=>rfl) (F.skip R)
  ·simp only at h;rcases Dj V (by omega) h with ⟨val,wr,rd,g,M,f⟩ | ⟨v,wr,rd,M,f⟩
   ·refine more ⟨o.dst,val,wr,rd⟩ (⟨i,rd,keys wr⟩::tr) (B.app o.dst val wr B.nb) rfl (λ_ s' J W q3 q4 ι0 w0 ι a w F A K Q S=>?_) (u.put ⟨o.dst,val,wr,rd⟩) (wC d.symm) (λx hx=>gy _ hx) (.inl (by simp [keys])) M;rw [Y s' J n ι0 ι w0 a w F];simp only [aJ];refine f s' (yi λt ht=>by rw [J t ht,u.T]) (λb q=>by rw [W b q,u.H]) (by rw [q3,d]) (by rw [q4,u.ro]) ι0 w0 ι a w F (by simpa using A) K Q λU a' w' z1 z2=>S U a' w' (by simpa using z1) z2
   ·cases M
theorem AW {α:Type} {E:List Ent} (hE:∀x∈E,fF P x) {n nb0:Nat} {ops:List Oper} {masks:List Nat} {k:St->List TE->Option α} {kp:Nat->V->St->List TE->Option α} {z:α}:∀(l:List Oper) (i:Nat) (s:St) (tr:List TE),
  nb0+8*(i+l.length)<=s.nb->runD P E n nb0 ops masks kp i l s tr k=some z->
  (∃(recs:List Rec) (d:St) (trf:List TE),recs.length=l.length/\k d trf=some z/\Eqv d (recs.foldl St.put s)/\(∀x∈tr,x∈trf)/\
   (∀j r,recs[j]?=some r->(⟨i+j,r.rd,keys r.wr⟩:TE)∈trf\/(r.rd=[]/\r.wr=[]))/\
   ∀(j:Nat) (o:Oper) (r:Rec),l[j]?=some o->recs[j]?=some r->r.dst=o.dst/\va P n nb0 ops (i+j) o r ((recs.take j).foldl St.put s))\/
  (∃(p:Nat) (op:Oper) (recs:List Rec) (d:St) (L:St) (trf:List TE) (v:V) (wr:List (Nat×Blk)) (q:Rec),recs.length=l.length/\l[p]?=some op/\recs[p]?=some q/\q.dst=op.dst/\q.wr=[]/\L=d.app none none wr d.nb/\kp (i+p) v L trf=some z/\Eqv d ((recs.take p).foldl St.put s)/\(∀x∈tr,x∈trf)/\
   zF P n nb0 ops (i+p) op v wr q.rd ((recs.take p).foldl St.put s)/\
   (∀j r,recs[j]?=some r->j≠p->(⟨i+j,r.rd,keys r.wr⟩:TE)∈trf\/(r.rd=[]/\r.wr=[]))/\
   ∀(j:Nat) (o:Oper) (r:Rec),l[j]?=some o->recs[j]?=some r->r.dst=o.dst/\((j<p\/(p<j/\(getN masks (i+j)).testBit (i+p)=false))->va P n nb0 ops (i+j) o r ((recs.take j).foldl St.put s)))
 | [],i,s,tr,R,h=>.inl ⟨[],s,tr,rfl,h,Eqv.refl s,λ_ h=>h,λj r h=>by simp at h,λj o r h=>by simp at h⟩
 | o::l,i,s,tr,R,h=>by
  simp only [aC] at R;simp only [runD] at h;obtain ⟨want,D,h,A,hw⟩:=zR h;have e:D.nb=s.nb:=A.nb;have more:∀(B:Rec) (y:List TE) (O:St),B.dst=o.dst->va P n nb0 ops i o B s->Eqv O (s.put B)->s.nb<=O.nb->(∀x∈tr,x∈y)->((⟨i,B.rd,keys B.wr⟩:TE)∈y\/(B.rd=[]/\B.wr=[]))->
    runD P E n nb0 ops masks kp (i+1) l O y k=some z->
    (∃(recs:List Rec) (d:St) (trf:List TE),recs.length=(o::l).length/\k d trf=some z/\Eqv d (recs.foldl St.put s)/\(∀x∈tr,x∈trf)/\
   (∀j r,recs[j]?=some r->(⟨i+j,r.rd,keys r.wr⟩:TE)∈trf\/(r.rd=[]/\r.wr=[]))/\
   ∀(j:Nat) (f:Oper) (r:Rec),(o::l)[j]?=some f->recs[j]?=some r->r.dst=f.dst/\va P n nb0 ops (i+j) f r ((recs.take j).foldl St.put s))\/
    (∃(p:Nat) (op:Oper) (recs:List Rec) (d:St) (L:St) (trf:List TE) (v:V) (wr:List (Nat×Blk)) (q:Rec),recs.length=(o::l).length/\(o::l)[p]?=some op/\recs[p]?=some q/\q.dst=op.dst/\q.wr=[]/\L=d.app none none wr d.nb/\kp (i+p) v L trf=some z/\Eqv d ((recs.take p).foldl St.put s)/\(∀x∈tr,x∈trf)/\
   zF P n nb0 ops (i+p) op v wr q.rd ((recs.take p).foldl St.put s)/\
   (∀j r,recs[j]?=some r->j≠p->(⟨i+j,r.rd,keys r.wr⟩:TE)∈trf\/(r.rd=[]/\r.wr=[]))/\
   ∀(j:Nat) (f:Oper) (r:Rec),(o::l)[j]?=some f->recs[j]?=some r->r.dst=f.dst/\((j<p\/(p<j/\(getN masks (i+j)).testBit (i+p)=false))->va P n nb0 ops (i+j) f r ((recs.take j).foldl St.put s))):=by
   intro B y O hd hl M hnb2 X S h;rcases AW hE l (i+1) O y (by omega) h with ⟨recs,d,trf,W,N,g3,J,g5,g6⟩ | ⟨p,op,recs,d,L,trf,v,wr,q,W,g0,gr,gd,gw,gs,N,g3,J,g7,g5,g6⟩
   ·refine .inl ⟨B::recs,d,trf,by simp [W],N,g3.trans (Eqv.puts recs M),λx hx=>J x (X x hx),λj r c=>?_,λj f r m c=>?_⟩
    ·cases j with
     | zero=>simp only [mB,au] at c;subst c;exact S.imp (J _) id
     | succ j=>have:=g5 j r (by simpa using c);rwa [show i+1+j=i+(j+1) by omega] at this
    ·cases j with
     | zero=>
      simp only [mB,au] at m c;subst m c;exact ⟨hd,hl⟩
     | succ j=>
      obtain ⟨p1,I⟩:=g6 j f r (by simpa using m) (by simpa using c);rw [show i+1+j=i+(j+1) by omega] at I;exact ⟨p1,I.eqv (by simpa using Eqv.puts (recs.take j) M)⟩
   ·rw [show i+1+p=i+(p+1) by omega] at N g7;refine .inr ⟨p+1,op,B::recs,d,L,trf,v,wr,q,by simp [W],by simpa using g0,by simpa using gr,gd,gw,gs,N,g3.trans (by simpa using Eqv.puts (recs.take p) M),λx hx=>J x (X x hx),g7.eqv (by simpa using Eqv.puts (recs.take p) M),λj r c hjp=>?_,λj f r m c=>?_⟩
    ·cases j with
     | zero=>simp only [mB,au] at c;subst c;exact S.imp (J _) id
     | succ j=>have:=g5 j r (by simpa using c) (by omega);rwa [show i+1+j=i+(j+1) by omega] at this
    ·cases j with
     | zero=>
      simp only [mB,au] at m c;subst m c;exact ⟨hd,λ_=>hl⟩
     | succ j=>
      obtain ⟨p1,I⟩:=g6 j f r (by simpa using m) (by simpa using c);rw [show i+1+j=i+(j+1) by omega,show i+1+p=i+(p+1) by omega] at I;exact ⟨p1,λhc=>(I (hc.imp (λh=>by omega) λh=>⟨by omega,h.2⟩)).eqv (by simpa using Eqv.puts (recs.take j) M)⟩
  cases want
  ·simp only at h;split at h
   case h_2=>cases h
   rename_i hd;refine more ⟨o.dst,some (.tp []),[],[]⟩ tr (D.app o.dst (some (.tp [])) [] D.nb) rfl (λs' F U Y Z ι0 w0 ι a w G C K Q hK=>?_) (A.put ⟨o.dst,some (.tp []),[],[]⟩) (wC e.symm) (λ_ h=>h) (.inr ⟨rfl,rfl⟩) h;rw [hw s' F n ι0 ι w0 a w G];simp only [br,aA];exact hK ι _ _ (λ_ _=>rfl) (G.skip hd)
  ·simp only at h;rcases Dj hE (by omega) h with ⟨val,wr,rd,g,hk,u⟩ | ⟨v,wr,rd,hk,u⟩
   ·refine more ⟨o.dst,val,wr,rd⟩ (⟨i,rd,keys wr⟩::tr) (D.app o.dst val wr D.nb) rfl (λs' F U Y Z ι0 w0 ι a w G C K Q hK=>?_) (A.put ⟨o.dst,val,wr,rd⟩) (wC e.symm) (λx hx=>gy _ hx) (.inl (by simp [keys])) hk;rw [hw s' F n ι0 ι w0 a w G];simp only [aJ];refine u s' (yi λt ht=>by rw [F t ht,A.T]) (λb hb=>by rw [U b hb,A.H]) (by rw [Y,e]) (by rw [Z,A.ro]) ι0 w0 ι a w G (by simpa using C) K Q λι' a' w' z1 z2=>hK ι' a' w' (by simpa using z1) z2
   ·obtain ⟨recs,trf,W,N,J,g5,g6⟩:=LR hE l (i+1) _ tr (by simp only [St.app];omega) hk;have M:Eqv (D.app o.dst none [] D.nb) (s.put ⟨o.dst,none,[],rd⟩):=A.put ⟨o.dst,none,[],rd⟩;refine .inr ⟨0,o,⟨o.dst,none,[],rd⟩::recs,D,_,trf,v,wr,⟨o.dst,none,[],rd⟩,by simp [W],rfl,rfl,rfl,rfl,rfl,N,A,J,λs' F U Y Z ι0 w0 ι a w G C K Q hK=>?_,λj r c hjp=>?_,λj f r m c=>?_⟩
    ·simp only [mH,Hj] at F U Y Z;exact ⟨hw s' F n ι0 ι w0 a w G,u s' (yi λt ht=>by rw [F t ht,A.T]) (λb hb=>by rw [U b hb,A.H]) (by rw [Y,e]) (by rw [Z,A.ro]) ι0 w0 ι a w G (by simpa using C) K Q hK⟩
    ·cases j with
     | zero=>exact absurd rfl hjp
     | succ j=>have:=g5 j r (by simpa using c);rwa [show i+1+j=i+(j+1) by omega] at this
    ·cases j with
     | zero=>
      simp only [mB,au] at m c;subst m c;exact ⟨rfl,λh=>by omega⟩
     | succ j=>
      obtain ⟨p1,I⟩:=g6 j f r (by simpa using m) (by simpa using c);rw [show i+1+j=i+(j+1) by omega] at I;refine ⟨p1,λhc=>(I ?_).eqv (by simpa using Eqv.puts (recs.take j) M)⟩;rcases hc with hc | hc
      ·omega
      ·exact hc.2
def Down (ops:List Oper) (D:Nat->Bool):Prop:=∀j o e,ops[j]?=some o->D j=true->e∈o.after.toList->Region.binds .any e=true->D e.on=true
def Must (ops:List Oper) (i j:Nat):Prop:=∀D,Down ops D->D j=true->D i=true
def Dn (a:Array Bool):Nat->Bool:=λi=>a.getD i false
structure DrawFacts (P:Program) (n nb0:Nat) (ops:List Oper) (recs:List Rec) (s0:St) (live:Nat->Prop):Prop where
 len:recs.length=ops.length
 nb:s0.nb=nb0+8*ops.length
 loc:∀(j:Nat) (o:Oper) (r:Rec),ops[j]?=some o->recs[j]?=some r->(∀t,r.dst=some t->o.dst=some t)/\(live j->va P n nb0 ops j o r (appD 0 recs (λm=>decide (m<j)) s0))
 down:∀(j:Nat) (o:Oper) (e:Edge),ops[j]?=some o->e∈o.after.toList->Region.binds .any e=true->e.on<j
 apart:∀(i j:Nat) (x y:Oper),i<j->ops[i]?=some x->ops[j]?=some y->Must ops i j\/x.apart ops.toArray y=true
 blk:∀(i j:Nat) (x y:Rec),i<j->recs[i]?=some x->recs[j]?=some y->Must ops i j\/((∀b∈keys x.wr,b∉y.rd/\b∉keys y.wr)/\∀b∈x.rd,b∉keys y.wr)
theorem uj {ops:List Oper} {a:Array Bool} {i:Nat} (hs:a.size=ops.length) (h:i∈Region.ready .any ops.toArray a):
  ∃o,ops[i]?=some o/\i<ops.length/\Dn a i=false/\∀e∈o.after.toList,Region.binds .any e=true->Dn a e.on=true:=by
 unfold Region.ready at h;simp only [nH,kR,az,ym] at h;obtain ⟨d,f,b⟩:=h;have c:ops[i]?=some ops[i]:=by simp [d]
 refine ⟨ops[i],c,d,?_,λe j g=>?_⟩
 ·unfold Dn;have:i<a.size:=by omega
  simp only [qU,V9 this,yf] at f ⊢;simpa using f
 ·simp only [List.getElem?_toArray,c,eX,yf] at b;have:=(Array.all_eq_true'.1 b) e (by simpa using j);simp only [g,co,o8] at this;exact this
theorem Bi {ops:List Oper} {a:Array Bool} {i:Nat} {o:Oper} (hs:a.size=ops.length) (b:ops[i]?=some o) (d:Dn a i=false)
  (g:∀e∈o.after.toList,Region.binds .any e=true->Dn a e.on=true):i∈Region.ready .any ops.toArray a:=by
 have hi:i<ops.length:=by
  rcases aH i ops.length with c | c
  ·exact c
  ·rw [gW c] at b;cases b
 unfold Region.ready;simp only [nH,kR,az,ym];refine ⟨hi,?_,?_⟩
 ·have:i<a.size:=by omega
  unfold Dn at d;simp only [qU,V9 this,yf] at d ⊢;simp [d]
 ·simp only [List.getElem?_toArray,b,eX,yf];refine Array.all_eq_true'.2 λe h=>?_;cases f:Region.binds .any e with
  | false=>rfl
  | true=>
   have:=g e (by simpa using h) f;unfold Dn at this;simpa using this
theorem yP {a:Array Bool} {i:Nat} (h:i<a.size) (j:Nat):Dn (a.setIfInBounds i true) j=if j=i then true else Dn a j:=by
 unfold Dn;simp only [qU];rw [Ry];by_cases b:i=j
 ·subst b;simp [h]
 ·simp [b,show ¬j=i from λe=>b e.symm]
theorem Down.add {ops:List Oper} {D:Nat->Bool} (h:Down ops D) {i:Nat} {o:Oper} (O:ops[i]?=some o) (U:∀e∈o.after.toList,Region.binds .any e=true->D e.on=true):
  Down ops λj=>if j=i then true else D j:=by
 intro j Q e E J G F;show (if e.on=i then true else D e.on)=true;by_cases C:j=i
 ·subst C;rw [O] at E;cases E;have:=U e G F;split
  ·rfl
  ·exact this
 ·simp only [C,aA] at J;have:=h j Q e E J G F;split
  ·rfl
  ·exact this
theorem Must.in {ops:List Oper} {D:Nat->Bool} (h:Down ops D) {i k:Nat} {o:Oper} (G:ops[i]?=some o) (E:∀e∈o.after.toList,Region.binds .any e=true->D e.on=true)
  (F:Must ops k i) (C:k≠i):D k=true:=by
 have:=F _ (h.add G E) (by simp);simpa [C] using this
section
variable {n nb0:Nat} {ops:List Oper} {recs:List Rec} {s0:St} {live:Nat->Prop} (F:DrawFacts P n nb0 ops recs s0 live)
include F
theorem wZ {i:Nat} {o:Oper} (h:ops[i]?=some o):∃r,recs[i]?=some r:=by
 have hi:i<ops.length:=by
  rcases aH i ops.length with a | a
  ·exact a
  ·rw [gW a] at h;cases h
 exact ⟨recs[i]'(by rw [F.len];exact hi),by simp [F.len,hi]⟩
theorem xH {i:Nat} {r:Rec} (h:recs[i]?=some r):∃o,ops[i]?=some o:=by
 have hi:i<recs.length:=by
  rcases aH i recs.length with a | a
  ·exact a
  ·rw [gW a] at h;cases h
 exact ⟨ops[i]'(by rw [<-F.len];exact hi),by simp [F.len▸hi]⟩
theorem Bz {D:Nat->Bool} (v:Down ops D) {i:Nat} {o:Oper} (f:ops[i]?=some o) (u:D i=false) (x:∀e∈o.after.toList,Region.binds .any e=true->D e.on=true)
  {t:Nat} (q:t∈o.looksAt ops.toArray):look (appD 0 recs D s0).T t=look (appD 0 recs (λm=>decide (m<i)) s0).T t:=by
 rw [ze,ze];refine sT recs 0 _ _ t _ λj r s w=>?_;simp only [dq];obtain ⟨l,c⟩:=xH F s;have a:=((F.loc j l r c s).1 t w).symm;rcases E3 j i with d | h | p
 ·have g:D j=true:=by
   rcases F.apart j i l o d c f with n | b
   ·exact n.in v f x (by omega)
   ·exact absurd q ((Fj b).1 t a.symm)
  rw [g];simp [d]
 ·subst h;simp [u]
 ·have g:D j=false:=by
   rcases F.apart i j o l p f c with n | b
   ·cases k:D j with
    | false=>rfl
    | true=>have:=n D v k;rw [u] at this;cases this
   ·exact absurd q ((Fj b).2.2 t a.symm)
  rw [g];simp;omega
theorem AP {D:Nat->Bool} (u:Down ops D) {i:Nat} {o:Oper} {r:Rec} (v:ops[i]?=some o) (n:recs[i]?=some r) (s:D i=false)
  (w:∀e∈o.after.toList,Region.binds .any e=true->D e.on=true) {b:Nat} (l:b∈r.rd):look (appD 0 recs D s0).H b=look (appD 0 recs (λm=>decide (m<i)) s0).H b:=by
 rw [yw,yw];refine pT recs 0 _ _ b _ λj q p t=>?_;simp only [dq];rcases E3 j i with c | f | k
 ·have d:D j=true:=by
   rcases F.blk j i q r c p n with h | a
   ·exact h.in u v w (by omega)
   ·exact absurd l (a.1 b t).1
  rw [d];simp [c]
 ·subst f;simp [s]
 ·have d:D j=false:=by
   rcases F.blk i j r q k n p with h | a
   ·cases g:D j with
    | false=>rfl
    | true=>have:=h D u g;rw [s] at this;cases this
   ·exact absurd t (a.2 b l)
  rw [d];simp;omega
theorem AN {D:Nat->Bool} (B:Down ops D) {i:Nat} {o:Oper} {r:Rec} (z:ops[i]?=some o) (f:recs[i]?=some r) (C:D i=false):
  Eqv ((appD 0 recs D s0).put r) (appD 0 recs (λj=>if j=i then true else D j) s0):=by
 have h:=(F.loc i o r z f).1;refine ⟨λt=>?_,λb=>?_,by rw [UX,lS,lS],by show (appD 0 recs D s0).lo=_;rw [xQ,xQ],by show (appD 0 recs D s0).ro=_;rw [jo,jo],by show (appD 0 recs D s0).rb=_;rw [xm,xm]⟩
 ·rw [O6,ze,ze];by_cases g:r.dst=some t
  ·rw [ae g];symm;refine GH recs 0 i _ t _ r f (by simp) g λk p q c x=>?_;simp only [dq,show ¬k=i by omega,aA];obtain ⟨ok,m⟩:=xH F c;have s:=(F.loc k ok p m c).1;rcases F.apart i k o ok q z m with y | e
   ·cases d:D k with
    | false=>rfl
    | true=>have:=y D B d;rw [C] at this;cases this
   ·exact absurd (s t x) ((Fj e).2.1 t (h t g))
  ·rw [ab g];refine sT recs 0 _ _ t _ λj p l w=>?_;simp only [dq];by_cases a:j=i
   ·subst a;rw [f] at l;cases l;exact absurd w g
   ·simp [a]
 ·rw [PM,yw,yw];by_cases n:b∈keys r.wr
  ·obtain ⟨v,A⟩:=rO n;rw [A,Option.some_or];symm;rw [<-A];refine HG recs 0 i _ b _ r f (by simp) n λk p q c u=>?_;simp only [dq,show ¬k=i by omega,aA];rcases F.blk i k r p q f c with y | e
   ·cases d:D k with
    | false=>rfl
    | true=>have:=y D B d;rw [C] at this;cases this
   ·exact absurd u (e.1 b n).2
  ·rw [qL n,E9];refine pT recs 0 _ _ b _ λj p l u=>?_;simp only [dq];by_cases a:j=i
   ·subst a;rw [f] at l;cases l;exact absurd u n
   ·simp [a]
theorem Du {kk:Nat} (D:∀j,kk<=j->j<ops.length->live j) {ι0:Inj} {w0:Base} {Q:Exit->Act->World->Prop} (V:∀ι a w,Inv n ι0 w0 ι (recs.foldl St.put s0) a w->Q .normal a w):
  ∀(fuel:Nat) (c:Array Bool) (ι:Inj) (a:Act) (w:World),c.size=ops.length->(∀j,j<kk->Dn c j=true)->Down ops (Dn c)->Inv n ι0 w0 ι (appD 0 recs (Dn c) s0) a w->
   (∀i,i<ops.length->Dn c i=false->∀b,nb0+8*i<=b->b<nb0+8*i+8->ι b=none)->((List.range ops.length).filter λi=>!Dn c i).length<=fuel->
   wpAny P .any ops.toArray Q fuel c a w:=by
 have z:∀(c:Array Bool) (ι:Inj) (a:Act) (w:World),c.size=ops.length->Inv n ι0 w0 ι (appD 0 recs (Dn c) s0) a w->Region.ready .any ops.toArray c=[]->Q .normal a w:=by
  intro c ι a w hs x m;have B:∀j,j<ops.length->Dn c j=true:=by
   intro j
   induction j using Nat.strongRecOn with
   | _ j ih=>
    intro s;cases K:Dn c j with
    | true=>rfl
    | false=>
     have f:ops[j]?=some ops[j]:=by simp [s]
     have N:=Bi hs f K λe O G=>ih e.on (F.down j _ e f O G) (by have:=F.down j _ e f O G;omega);rw [m] at N;cases N
  rw [AG recs 0 (Dn c) s0 λj s=>by simpa using B j (by rw [<-F.len];exact s)] at x;exact V ι a w x
 intro fuel
 induction fuel with
 | zero=>
  intro c ι a w hs v A x q hc;have m:Region.ready .any ops.toArray c=[]:=by
   rw [List.eq_nil_iff_forall_not_mem];intro i hi;obtain ⟨o,f,g,p,_⟩:=uj hs hi;have:i∈(List.range ops.length).filter λi=>!Dn c i:=by simp [g,p]
   have:=FH this;omega
  exact ⟨m,z c ι a w hs x m⟩
 | succ fuel ih=>
  intro c ι a w hs v A x q hc;refine ⟨z c ι a w hs x,λi hi=>?_⟩;obtain ⟨o,f,g,p,I⟩:=uj hs hi;obtain ⟨r,m⟩:=wZ F f;have y:=(F.loc i o r f m).2 (D i (by rcases aH i kk with h | h;(· have:=v i h;rw [p] at this;cases this);exact h) g);have d:Dn (c.setIfInBounds i true)=λj=>if j=i then true else Dn c j:=by
   funext j;exact yP (by omega) j
  have E:=y (appD 0 recs (Dn c) s0) (λt R=>Bz F A f p I R) (λb G=>AP F A f m p I G) (by rw [lS,lS]) (by rw [jo,jo]) ι0 w0 ι a w x (q i g p)
   (wpAny P .any ops.toArray Q fuel (c.setIfInBounds i true)) Q λM T w' S U=>by
    refine ih _ M T w' (by simpa using hs) (λj s=>by rw [d];simp only;split;(· rfl);exact v j s) (by rw [d];exact A.add f I) (by rw [d];exact U.eqv (AN F A f m p)) (λj s l b H L=>?_) ?_
    ·rw [d] at l;by_cases k:j=i
     ·simp [k] at l
     ·simp only [k,aA] at l;rw [S b (by omega)];exact q j s l b H L
    ·have:((List.range ops.length).filter λj=>!Dn (c.setIfInBounds i true) j).length<((List.range ops.length).filter λj=>!Dn c j).length:=by
      rw [d];have C:((List.range ops.length).filter λj=>!(if j=i then true else Dn c j))=((List.range ops.length).filter λj=>!Dn c j).filter λj=>decide (j≠i):=by
       rw [GA];congr 1;funext j;by_cases k:j=i<;>simp [k]
      rw [C];refine AY.2 ⟨i,by simp [g,p],by simp⟩
     omega
  unfold wpOp;have J:ops.toArray[i]?=some o:=by simpa using f
  rw [J];simp only;split
  ·rename_i u;rw [ae u] at E;exact .inl E
  ·rename_i u;rw [ab u] at E;exact E
theorem O4 {lim kk:Nat} (B:lim<ops.length) (g:∀j,kk<=j->j<lim->live j/\Must ops j lim) (y:∀j,lim<j->j<ops.length->Must ops lim j) {ι0:Inj} {w0:Base} {Q:Exit->Act->World->Prop}
  (Z:∀(fuel:Nat) (c:Array Bool) (ι:Inj) (a:Act) (w:World),c.size=ops.length->(∀j,j<lim->Dn c j=true)->Dn c lim=false->Down ops (Dn c)->Down ops (Dn (c.setIfInBounds lim true))->
   Inv n ι0 w0 ι (appD 0 recs (Dn c) s0) a w->((List.range ops.length).filter λi=>!Dn c i).length<=fuel+1->wpOp P ops.toArray Q lim (wpAny P .any ops.toArray Q fuel (c.setIfInBounds lim true)) a w):
  ∀(fuel:Nat) (c:Array Bool) (ι:Inj) (a:Act) (w:World),c.size=ops.length->(∀j,j<kk->Dn c j=true)->Down ops (Dn c)->Dn c lim=false->Inv n ι0 w0 ι (appD 0 recs (Dn c) s0) a w->
   (∀i,i<ops.length->Dn c i=false->∀b,nb0+8*i<=b->b<nb0+8*i+8->ι b=none)->((List.range ops.length).filter λi=>!Dn c i).length<=fuel->
   wpAny P .any ops.toArray Q fuel c a w:=by
 have J:∀(c:Array Bool),c.size=ops.length->Dn c lim=false->Region.ready .any ops.toArray c=[]->False:=by
  intro c hs hp x;have E:∀j,j<ops.length->Dn c j=true:=by
   intro j
   induction j using Nat.strongRecOn with
   | _ j ih=>
    intro s;cases N:Dn c j with
    | true=>rfl
    | false=>
     have f:ops[j]?=some ops[j]:=by simp [s]
     have T:=Bi hs f N λe U I=>ih e.on (F.down j _ e f U I) (by have:=F.down j _ e f U I;omega);rw [x] at T;cases T
  rw [E lim B] at hp;cases hp
 intro fuel
 induction fuel with
 | zero=>
  intro c ι a w hs l k hp L q hc;have:lim∈(List.range ops.length).filter λi=>!Dn c i:=by simp [B,hp]
  have:=FH this;omega
 | succ fuel ih=>
  intro c ι a w hs l k hp L q hc;refine ⟨λx=>(J c hs hp x).elim,λi hi=>?_⟩;obtain ⟨o,f,u,z,A⟩:=uj hs hi;obtain ⟨r,x⟩:=wZ F f;have d:Dn (c.setIfInBounds i true)=λj=>if j=i then true else Dn c j:=by
   funext j;exact yP (by omega) j
  by_cases D:i=lim
  ·subst D;refine Z fuel c ι a w hs (λj s=>?_) z k (by rw [d];exact k.add f A) L hc;rcases aH j kk with h | h
   ·exact l j h
   ·exact (g j h s).2.in k f A (by omega)
  have M:ops.toArray[i]?=some o:=by simpa using f
  unfold wpOp;rw [M];simp only;have hlt':i<lim:=by
   rcases aH i lim with h | h
   ·exact h
   ·have:=(y i (by omega) u).in k f A (λe=>D e.symm);rw [hp] at this;cases this
  have S:kk<=i:=by
   rcases aH i kk with h | h
   ·have:=l i h;rw [z] at this;cases this
   ·exact h
  have C:=(F.loc i o r f x).2 (g i S hlt').1
  have H:=C (appD 0 recs (Dn c) s0) (λt V=>Bz F k f z A V) (λb I=>AP F k f x z A I) (by rw [lS,lS]) (by rw [jo,jo]) ι0 w0 ι a w L (q i u z)
   (wpAny P .any ops.toArray Q fuel (c.setIfInBounds i true)) Q λR X w' W Y=>by
    refine ih _ R X w' (by simpa using hs) (λj s=>by rw [d];simp only;split;(· rfl);exact l j s) (by rw [d];exact k.add f A) (by rw [d];simp only [show ¬lim=i by omega,aA];exact hp) (by rw [d];exact Y.eqv (AN F k f x z)) (λj s p b K O=>?_) ?_
    ·rw [d] at p;by_cases m:j=i
     ·simp [m] at p
     ·simp only [m,aA] at p;rw [W b (by omega)];exact q j s p b K O
    ·have:((List.range ops.length).filter λj=>!Dn (c.setIfInBounds i true) j).length<((List.range ops.length).filter λj=>!Dn c j).length:=by
      rw [d];have G:((List.range ops.length).filter λj=>!(if j=i then true else Dn c j))=((List.range ops.length).filter λj=>!Dn c j).filter λj=>decide (j≠i):=by
       rw [GA];congr 1;funext j;by_cases m:j=i<;>simp [m]
      rw [G];refine AY.2 ⟨i,by simp [u,z],by simp⟩
     omega
  split
  ·rename_i v;rw [ae v] at H;exact .inl H
  ·rename_i v;rw [ab v] at H;exact H
theorem PG {lim:Nat} {ι0:Inj} {w0:Base} {Q:Exit->Act->World->Prop} {X:Oper} {pr:Rec} {v:V} {wr:List (Nat×Blk)} (g:ops[lim]?=some X) (J:recs[lim]?=some pr)
  (W:zF P n nb0 ops lim X v wr pr.rd (appD 0 recs (λm=>decide (m<lim)) s0))
  (B:∀j,j<ops.length->j≠lim->live j\/Must ops lim j)
  (hQ:∀D,Down ops D->(∀e∈X.after.toList,Region.binds .any e=true->D e.on=true)->D lim=false->∀ι x a w,VR ι v x->Inv n ι0 w0 ι ((appD 0 recs D s0).app none none wr s0.nb) a w->Q (.panic [{ v:=x,recovered:=false }]) a w):
  ∀(fuel:Nat) (c:Array Bool) (ι:Inj) (a:Act) (w:World),c.size=ops.length->Down ops (Dn c)->Dn c lim=false->Inv n ι0 w0 ι (appD 0 recs (Dn c) s0) a w->
   (∀i,i<ops.length->Dn c i=false->∀b,nb0+8*i<=b->b<nb0+8*i+8->ι b=none)->((List.range ops.length).filter λi=>!Dn c i).length<=fuel->
   wpAny P .any ops.toArray Q fuel c a w:=by
 have G:lim<ops.length:=by
  rcases aH lim ops.length with h' | h'
  ·exact h'
  ·rw [gW h'] at g;cases g
 have S:∀(c:Array Bool),c.size=ops.length->Dn c lim=false->Region.ready .any ops.toArray c=[]->False:=by
  intro c hs hp p;have I:∀j,j<ops.length->Dn c j=true:=by
   intro j
   induction j using Nat.strongRecOn with
   | _ j ih=>
    intro R;cases hDj:Dn c j with
    | true=>rfl
    | false=>
     have f:ops[j]?=some ops[j]:=by simp [R]
     have N:=Bi hs f hDj λe he E=>ih e.on (F.down j _ e f he E) (by have:=F.down j _ e f he E;omega);rw [p] at N;cases N
  rw [I lim G] at hp;cases hp
 intro fuel
 induction fuel with
 | zero=>
  intro c ι a w hs l hp Y h hc;have:lim∈(List.range ops.length).filter λi=>!Dn c i:=by simp [G,hp]
  have:=FH this;omega
 | succ fuel ih=>
  intro c ι a w hs l hp Y h hc;refine ⟨λp=>(S c hs hp p).elim,λi hi=>?_⟩;obtain ⟨o,f,k,u,A⟩:=uj hs hi;obtain ⟨r,p⟩:=wZ F f;have Z:ops.toArray[i]?=some o:=by simpa using f
  unfold wpOp;rw [Z];simp only;by_cases y:i=lim
  case neg=>
   rcases B i k y with hlv | N
   case inr=>
    have:=N.in l f A (λe=>y e.symm);rw [hp] at this;cases this
   have H:=(F.loc i o r f p).2 hlv;have d:Dn (c.setIfInBounds i true)=λj=>if j=i then true else Dn c j:=by
    funext j;exact yP (by omega) j
   have L:=H (appD 0 recs (Dn c) s0) (λt O=>Bz F l f u A O) (λb E=>AP F l f p u A E) (by rw [lS,lS]) (by rw [jo,jo]) ι0 w0 ι a w Y (h i k u)
    (wpAny P .any ops.toArray Q fuel (c.setIfInBounds i true)) Q λC a' w' T M=>by
     refine ih _ C a' w' (by simpa using hs) (by rw [d];exact l.add f A) (by rw [d];simp only [show ¬lim=i by omega,aA];exact hp) (by rw [d];exact M.eqv (AN F l f p u)) (λj R s b U hb2=>?_) ?_
     ·rw [d] at s;by_cases q:j=i
      ·simp [q] at s
      ·simp only [q,aA] at s;rw [T b (by omega)];exact h j R s b U hb2
     ·have:((List.range ops.length).filter λj=>!Dn (c.setIfInBounds i true) j).length<((List.range ops.length).filter λj=>!Dn c j).length:=by
       rw [d];have K:((List.range ops.length).filter λj=>!(if j=i then true else Dn c j))=((List.range ops.length).filter λj=>!Dn c j).filter λj=>decide (j≠i):=by
        rw [GA];congr 1;funext j;by_cases q:j=i<;>simp [q]
       rw [K];refine AY.2 ⟨i,by simp [k,u],by simp⟩
      omega
   split
   ·rename_i z;rw [ae z] at L;exact .inl L
   ·rename_i z;rw [ab z] at L;exact L
  case pos=>
   subst y;rw [g] at f;cases f;rw [J] at p;cases p
   obtain ⟨q1,q2⟩:=W (appD 0 recs (Dn c) s0) (λt O=>Bz F l g u A O) (λb E=>AP F l g J u A E) (by rw [lS,lS]) (by rw [jo,jo]) ι0 w0 ι a w Y (h i k u)
    (wpAny P .any ops.toArray Q fuel (c.setIfInBounds i true)) Q λC x w' T M=>hQ _ l A u C x a w' T (by rw [lS] at M;exact M)
   rw [ae q1];exact .inl q2
end
theorem BZ:∀{l:List Nat} {j:Nat},l.length<=j->getN l j=0
 | [],_,_=>rfl
 | _::_,0,h=>by simp at h
 | _::l,j+1,h=>BZ (l:=l) (by simpa using h)
theorem sd:∀{l m:List Nat} {j:Nat},j<l.length->getN (l++m) j=getN l j
 | [],_,_,h=>by simp at h
 | _::_,_,0,_=>rfl
 | _::l,m,j+1,h=>sd (l:=l) (m:=m) (by simpa using h)
theorem sB:∀(l:List Nat) (x:Nat),getN (l++[x]) l.length=x
 | [],_=>rfl
 | _::l,x=>sB l x
theorem sV (b:List Nat):∀(l:List Edge) (s i:Nat),(DY b l s).testBit i=true->s.testBit i=true\/∃e∈l,Region.binds .any e=true/\(e.on=i\/(getN b e.on).testBit i=true)
 | [],s,i,h=>.inl h
 | e::l,s,i,h=>by
  simp only [DY] at h;split at h
  ·rename_i g;rcases sV b l _ i h with a | ⟨d,c,f⟩
   ·simp only [Nat.testBit_or,iO] at a;rcases a with (a | a) | a
    ·exact .inl a
    ·refine .inr ⟨e,by simp,g,.inl ?_⟩;rw [Nat.testBit_two_pow] at a;simpa using a
    ·exact .inr ⟨e,by simp,g,.inr a⟩
   ·exact .inr ⟨d,gy _ c,f⟩
  ·rcases sV b l _ i h with a | ⟨d,c,f⟩
   ·exact .inl a
   ·exact .inr ⟨d,gy _ c,f⟩
theorem pV (ops:List Oper):∀(r:List Oper) (a:List Nat),(∀j,r[j]?=ops[a.length+j]?)->(∀j i,(getN a j).testBit i=true->Must ops i j)->
  ∀j i,(getN (la r a) j).testBit i=true->Must ops i j
 | [],a,_,h=>h
 | o::r,a,l,h=>by
  simp only [la];refine pV ops r _ (λj=>by have:=l (j+1);simp only [HF] at this;rw [this];simp;congr 1;omega) λj i b=>?_;rcases E3 j a.length with d | f | s
  ·rw [sd d] at b;exact h j i b
  ·subst f;rw [sB] at b;have p:ops[a.length]?=some o:=by have:=l 0;simpa using this.symm
   rcases sV a _ _ _ b with c | ⟨e,q,k,c⟩
   ·simp at c
   ·intro D m g;have n:=m a.length o e p g q k;rcases c with rfl | c
    ·exact n
    ·exact h e.on i c D m n
  ·rw [BZ (by simp;omega)] at b;simp at b
theorem jR:∀(l:List Oper) (i:Nat),qA i l=true->∀(j:Nat) (o:Oper) (e:Edge),l[j]?=some o->e∈o.after.toList->Region.binds .any e=true->e.on<i+j
 | [],_,_,_,_,_,h,_,_=>by simp at h
 | o::l,i,h,j,d,e,a,c,b=>by
  simp only [qA,az,cL] at h;cases j with
  | zero=>
   simp only [mB,au] at a;subst a;have:=h.1 e c;simp only [b,co,o8] at this;exact aI this
  | succ j=>have:=jR l (i+1) h.2 j d e (by simpa using a) c b;omega
theorem so {ops:Array Oper} {o:Oper} {a:Nat}:∀(l:List Oper) (i:Nat),tU ops o a i l=true->∀(j:Nat) (p:Oper),l[j]?=some p->a.testBit (i+j)=true\/p.apart ops o=true
 | [],_,_,_,_,h=>by simp at h
 | q::l,i,h,j,p,b=>by
  simp only [tU,az,iO] at h;cases j with
  | zero=>simp only [mB,au] at b;subst b;exact h.1
  | succ j=>have:=so l (i+1) h.2 j p (by simpa using b);rwa [show i+1+j=i+(j+1) by omega] at this
theorem nj {ops:Array Oper} {masks:List Nat}:∀(l a:List Oper),tu ops masks a.length a l=true->∀(i j:Nat) (x y:Oper),i<a.length+j->(a++l)[i]?=some x->l[j]?=some y->
  (getN masks (a.length+j)).testBit i=true\/x.apart ops y=true
 | [],_,_,_,_,_,_,_,_,h=>by simp at h
 | o::l,a,h,i,j,x,y,hi,hx,hy=>by
  simp only [tu,az] at h;cases j with
  | zero=>
   simp only [mB,au] at hy;subst hy;have:=so a 0 h.1 i x (by rw [nG (by simpa using hi)] at hx;exact hx);simpa using this
  | succ j=>
   have b:=h.2;rw [show a.length+1=(a++[o]).length by simp] at b;have:=nj l (a++[o]) b i j x y (by simp;omega) (by simpa using hx) (by simpa using hy);rwa [show (a++[o]).length+j=a.length+(j+1) by simp;omega] at this
theorem qQ {masks:List Nat}:∀{tr:List TE},pI masks tr=true->∀x∈tr,∀y∈tr,x.i<y.i->yv masks x y=true\/yv masks y x=true
 | [],_,x,hx,_,_,_=>by cases hx
 | z::l,h,x,hx,y,hy,c=>by
  simp only [pI,az,cL] at h;rcases dr.1 hx with b | b
  ·subst b;rcases dr.1 hy with a | a
   ·subst a;omega
   ·exact .inl (h.1 y a)
  ·rcases dr.1 hy with a | a
   ·subst a;exact .inr (h.1 x b)
   ·exact qQ h.2 x b y a c
theorem wy {x y:TE} (h:S8 x y=false):(∀b∈x.ws,b∉y.rd/\b∉y.ws)/\∀b∈x.rd,b∉y.ws:=by
 simp only [S8,oV,sc,iO,not_or,List.contains_iff_mem] at h;exact ⟨λb a=>h.1 b a,λb a=>h.2 b a⟩
theorem CZ {masks:List Nat} {x y:TE} (h:yv masks x y=true\/yv masks y x=true) (d:x.i<y.i):
  (getN masks y.i).testBit x.i=true\/((∀b∈x.ws,b∉y.rd/\b∉y.ws)/\∀b∈x.rd,b∉y.ws):=by
 have f:Nat.blt x.i y.i=true:=cZ d;have k:Nat.blt y.i x.i=false:=by
  cases g:Nat.blt y.i x.i with
  | false=>rfl
  | true=>have:y.i<x.i:=aI g;omega
 rcases h with h | h
 ·simp only [yv,f,ah,iO,kW] at h;exact h.imp id wy
 ·simp only [yv,k,af,iO,kW] at h;refine h.imp id λh=>?_;obtain ⟨a,b⟩:=wy h;exact ⟨λc hc=>⟨λj=>b c j hc,λe=>(a c e).2 hc⟩,λc hc e=>(a c e).1 hc⟩
theorem u0:∀(ops:List Oper) {T:List (Nat×Option V)} (t:Nat) (v:V),look (Iy ops T) t=some (some v)->(∀o∈ops,o.dst≠some t)/\look T t=some (some v)
 | [],T,t,v,h=>⟨by simp,h⟩
 | o::l,T,t,v,h=>by
  simp only [Iy] at h;split at h
  ·rename_i d f;rw [aU] at h;split at h
   ·cases h
   ·rename_i a;obtain ⟨b,c⟩:=u0 l t v h;refine ⟨λx hx=>?_,c⟩;rcases dr.1 hx with rfl | hx
    ·rw [f];intro e;cases e;exact a rfl
    ·exact b x hx
  ·rename_i f;obtain ⟨b,c⟩:=u0 l t v h;refine ⟨λx hx=>?_,c⟩;rcases dr.1 hx with rfl | hx
   ·rw [f];intro e;cases e
   ·exact b x hx
theorem IH {α:Type} {E:List Ent} (hE:∀x∈E,fF P x) {n:Nat} {ops:List Oper} {s:St} {k:Ex->St->Option α} {z:α} (h:Fa P E n ops s k=some z) (id:Nat):
  SemC P n (.region id ops.toArray true) s λex s'=>k ex s'=some z:=by
 intro ι0 w0 ι a w hI;unfold Fa at h;split at h
 case h_2=>cases h
 rename_i hok;simp only [az,HY] at hok;obtain ⟨⟨hb1,hb2,_⟩,R⟩:=hok;have g:=pV ops ops [] (by simp) (λj i u=>by simp [getN] at u);have hI1:Inv n ι0 w0 ι { s with nb:=s.nb+8*ops.length } a { w with drawn:=w.drawn+1 }:=by
  have d:=hI.drawn (w.drawn+1);exact ⟨d.size,d.defers,d.tmps,⟨d.mem.inj,λb r u=>by have:=d.mem.low b r u;simp only;omega,d.mem.dom,d.mem.blk⟩,d.ext,d.new,d.fr,d.low,d.fz,d.gl⟩
 have I:∀i,Dn (Array.replicate ops.toArray.size false) i=false:=by
  intro i;unfold Dn;simp only [qU,Vn];split<;>rfl
 have hno:∀(l:List Rec) (i:Nat) (D:Nat->Bool) (s:St),(∀j,D j=false)->appD i l D s=s:=by
  intro l
  induction l with
  | nil=>intros;rfl
  | cons r l ih=>intro i D s hD;simp only [appD,hD i,br,aA];exact ih _ D s hD
 have C:∀(trf:List TE) (x y:Rec) (i j:Nat),pI (la ops []) (trf.filter λx=>!(x.rd.isEmpty&&x.ws.isEmpty))=true->i<j->((⟨0+i,x.rd,keys x.wr⟩:TE)∈trf\/(x.rd=[]/\x.wr=[]))->((⟨0+j,y.rd,keys y.wr⟩:TE)∈trf\/(y.rd=[]/\y.wr=[]))->
   Must ops i j\/((∀b∈keys x.wr,b∉y.rd/\b∉keys y.wr)/\∀b∈x.rd,b∉keys y.wr):=by
  intro trf x y i j G B hx hy;rcases hx with hxm | ⟨hx1,hx2⟩
  ·rcases hy with hym | ⟨hy1,hy2⟩
   ·simp only [dq] at hxm hym;by_cases U:(x.rd=[]/\x.wr=[])
    ·exact .inr (by simp [U.1,U.2,keys])
    ·by_cases he2:(y.rd=[]/\y.wr=[])
     ·exact .inr (by simp [he2.1,he2.2,keys])
     ·have m1:(⟨i,x.rd,keys x.wr⟩:TE)∈trf.filter λx=>!(x.rd.isEmpty&&x.ws.isEmpty):=by
       refine nH.2 ⟨hxm,?_⟩;simp only [keys,kW,CQ,Hf];rcases HK (x.rd=[]) with h | h
       ·exact .inr (by simpa using λhw=>U ⟨h,hw⟩)
       ·exact .inl h
      have m2:(⟨j,y.rd,keys y.wr⟩:TE)∈trf.filter λx=>!(x.rd.isEmpty&&x.ws.isEmpty):=by
       refine nH.2 ⟨hym,?_⟩;simp only [keys,kW,CQ,Hf];rcases HK (y.rd=[]) with h | h
       ·exact .inr (by simpa using λhw=>he2 ⟨h,hw⟩)
       ·exact .inl h
      have:=CZ (qQ G _ m1 _ m2 B) B;exact this.imp (g j i) λh=>h
   ·exact .inr (by simp [hy1,hy2,keys])
  ·exact .inr (by simp [hx1,hx2,keys])
 rcases AW hE ops 0 _ [] (by simp) h with ⟨recs,Q,trf,g1,S,O,_,Y,g6⟩ | ⟨p,po,recs,Q,sp,trf,v,wr,rp,g1,g0,gr,gd,gw,rfl,S,O,_,g7,Y,g6⟩
 ·split at S
  case h_2=>cases S
  rename_i G;have F:DrawFacts P n s.nb ops recs { s with nb:=s.nb+8*ops.length } (λ_=>True):=by
   refine ⟨g1,rfl,λj o r N X=>?_,λj o e N he u=>?_,λi j x y B hx hy=>?_,λi j x y B hx hy=>?_⟩
   ·obtain ⟨p1,p2⟩:=g6 j o r N X;simp only [dq] at p2;have e:=qy recs 0 j { s with nb:=s.nb+8*ops.length };simp only [dq] at e;exact ⟨λt V=>p1▸V,λ_=>p2.eqv e⟩
   ·have:=jR ops 0 hb1 j o e N he u;omega
   ·have:=nj (masks:=la ops []) ops [] hb2 i j x y (by simpa using B) (by simpa using hx) hy;simp only [ba,dq] at this;exact this.imp (g j i) λh=>h
   ·exact C trf x y i j G B (Y i x hx) (Y j y hy)
  refine wp_region_any R (Du (kk:=0) F (λ_ _ _=>trivial) (λM a' w' f=>⟨.normal,Q,M,rfl,f.eqv O.symm,S⟩) _ _ ι a _ (by simp) (λj W=>by omega) (λj o e _ L=>by rw [I j] at L;cases L) (by rw [hno recs 0 _ _ I];exact hI1) (λi _ _ b u _=>?_) ?_)
  ·exact hI.fresh b (by omega)
  ·have:=Ak (λi=>!Dn (Array.replicate ops.toArray.size false) i) (List.range ops.length);simpa using this
 ·split at S
  case h_2=>cases S
  rename_i hpk;simp only [az,V0] at hpk;obtain ⟨hw,G⟩:=hpk;simp only [dq] at S g7 hw;have B:p<ops.length:=by
   rcases aH p ops.length with h' | h'
   ·exact h'
   ·rw [gW h'] at g0;cases g0
  have A:∀i r,recs[i]?=some r->i≠p->(i<p/\Must ops i p)\/r.wr=[]:=by
   intro i r X J;rcases Y i r X J with hx | hx
   ·have:=(cL.1 hw) _ hx;simp only [dq,iO,az] at this;rcases this with h | h
    ·right;simpa [keys] using h
    ·exact .inl ⟨aI h.1,g p i h.2⟩
   ·exact .inr hx.2
  have g5':∀(j:Nat) (r:Rec),recs[j]?=some r->j≠p->(⟨0+j,r.rd,keys r.wr⟩:TE)∈trf\/(r.rd=[]/\r.wr=[]):=Y;have F:DrawFacts P n s.nb ops recs { s with nb:=s.nb+8*ops.length } (λj=>j<p\/(p<j/\(getN (la ops []) (0+j)).testBit (0+p)=false)):=by
   refine ⟨g1,rfl,λj o r N X=>?_,λj o e N he u=>?_,λi j x y Z hx hy=>?_,λi j x y Z hx hy=>?_⟩
   ·obtain ⟨p1,p2⟩:=g6 j o r N X;have e:=qy recs 0 j { s with nb:=s.nb+8*ops.length };simp only [dq] at e p2 ⊢;exact ⟨λt V=>p1▸V,λhc=>(p2 hc).eqv e⟩
   ·have:=jR ops 0 hb1 j o e N he u;omega
   ·have:=nj (masks:=la ops []) ops [] hb2 i j x y (by simpa using Z) (by simpa using hx) hy;simp only [ba,dq] at this;exact this.imp (g j i) λh=>h
   ·by_cases J:i=p
    ·
     subst J;rw [gr] at hx;cases hx;rcases A j y hy (by omega) with ⟨h,_⟩ | h
     ·omega
     ·exact .inr (by simp [gw,h,keys])
    ·by_cases K:j=p
     ·subst K;rw [gr] at hy;cases hy;rcases A i x hx J with ⟨_,h⟩ | h
      ·exact .inl h
      ·exact .inr (by simp [gw,h,keys])
     ·exact C trf x y i j G Z (Y i x hx J) (Y j y hy K)
  have c:Eqv ((recs.take p).foldl St.put { s with nb:=s.nb+8*ops.length }) (appD 0 recs (λm=>decide (m<p)) { s with nb:=s.nb+8*ops.length }):=by
   have e:=qy recs 0 p { s with nb:=s.nb+8*ops.length };simpa using e
  have hdead:∀j,j<ops.length->j≠p->(j<p\/(p<j/\(getN (la ops []) (0+j)).testBit (0+p)=false))\/Must ops p j:=by
   intro j _ hne;cases u:(getN (la ops []) (0+j)).testBit (0+p) with
   | false=>exact .inl ((Nat.lt_or_gt_of_ne hne).imp (λh=>h) λh=>⟨h,rfl⟩)
   | true=>simp only [dq] at u;exact .inr (g j p u)
  refine wp_region_any R (PG F g0 gr (g7.eqv c) hdead (λD hD hd hn M x a' w' hv f=>⟨.pan v,_,M,⟨x,rfl,hv⟩,?inv,S⟩) _ _ ι a _ (by simp) (λj o e _ L=>by rw [I j] at L;cases L) (I p) (by rw [hno _ 0 _ _ I];exact hI1) (λi _ _ b u _=>?fresh) ?len)
  case inv=>
   have hH:∀b,look Q.H b=look (appD 0 recs D { s with nb:=s.nb+8*ops.length }).H b:=by
    intro b;rw [O.H,c.H,yw,yw];refine pT _ 0 _ _ b _ λj r W u=>?_;simp only [dq];by_cases K:j=p
    ·subst K;rw [gr] at W;cases W;rw [gw] at u;simp [keys] at u
    ·rcases A j r W K with ⟨d,hm⟩ | hm
     ·rw [hm.in hD g0 hd (by omega)];simp [d]
     ·rw [hm] at u;simp [keys] at u
   have hT:∀t v,look (Iy ops s.T) t=some (some v)->look (appD 0 recs D { s with nb:=s.nb+8*ops.length }).T t=some (some v):=by
    intro t v V;obtain ⟨d,h2⟩:=u0 ops t v V;rw [ze,zr _ 0 D t _ λj r W X=>?_]
    ·exact h2
    ·exfalso;obtain ⟨o,N⟩:=xH F W;exact d o (fZ N) ((F.loc j o r N W).1 t X)
   refine ⟨f.size,f.defers,λt v V=>f.tmps t v (hT t v V),⟨f.mem.inj,λb r u=>?_,f.mem.dom,λb blk hl hdd=>f.mem.blk b blk ?_ hdd⟩,?_,f.new,?_,λb r u=>?_,?_,?_⟩
   ·have:=f.mem.low b r u;have e:=O.nb.trans c.nb;rw [lS] at e;show b<Q.nb;rw [e];exact this
   ·show look (wr++(appD 0 recs D { s with nb:=s.nb+8*ops.length }).H) b=_;rw [pL,<-hH b,<-pL];exact hl
   ·have e:=O.rb.trans c.rb;rw [xm] at e;have d:=f.ext;show ∀b q,ι0 b=some q->M b=some q\/Q.rb<=b;rw [e];simp only [St.app,xm] at d;exact d
   ·have e:=O.ro.trans c.ro;rw [jo] at e;have d:=f.fr;show Fr (roI ι0 Q.ro) w0.w w';rw [e];simp only [St.app,jo] at d;exact d
   ·have e:=O.lo.trans c.lo;rw [xQ] at e;have d:=f.low b r u;show b<Q.lo;rw [e];simp only [St.app,xQ] at d;exact d
   ·have e:=O.ro.trans c.ro;rw [jo] at e;have d:=f.fz;show ∀b q,M b=some (some q)->q.fz=true->b<Q.ro;rw [e];simp only [St.app,jo] at d;exact d
   ·have e:=O.ro.trans c.ro;rw [jo] at e;have d:=f.gl;show GL (roI ι0 Q.ro) w0.w;rw [e];simp only [St.app,jo] at d;exact d
  case fresh=>exact hI.fresh b (by omega)
  case len=>
   have:=Ak (λi=>!Dn (Array.replicate ops.toArray.size false) i) (List.range ops.length);simpa using this
end Go.Abs
