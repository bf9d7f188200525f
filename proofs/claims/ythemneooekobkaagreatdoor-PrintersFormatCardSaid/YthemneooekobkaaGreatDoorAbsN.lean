
/- A region that draws its order: where what is unordered does not meet, every order comes to what the order of the text comes to.
   Conditions: none; generic over the program. -/
import Derived.Test.YthemneooekobkaaGreatDoorAbsM
set_option linter.unusedSimpArgs false
set_option linter.unusedVariables false
namespace Go.Abs
variable {P:Program}
structure Rec where
 dst:Option Nat
 val:Option V
 wr:List (Nat×Blk)
 rd:List Nat
def St.put (s:St) (r:Rec):St:=s.app r.dst r.val r.wr s.nb
def keys (wr:List (Nat×Blk)):List Nat:=wr.map (·.1)
theorem qH {α:Type} (l m:List (Nat×α)) (n:Nat):look (l++m) n=(look l n).or (look m n):=by
 induction l with
 | nil=>rfl
 | cons x l ih=>
  obtain ⟨k,v⟩:=x;rw [eK,aV,aV];split
  ·rfl
  ·exact ih
theorem so {α:Type} {l:List (Nat×α)} {n:Nat} (h:n∉l.map (·.1)):look l n=none:=by
 induction l with
 | nil=>rfl
 | cons x l ih=>
  obtain ⟨k,v⟩:=x;simp only [ge,cN,not_or] at h;rw [aV,ab (λe=>h.1 e.symm)];exact ih h.2
theorem sX {α:Type} {l:List (Nat×α)} {n:Nat} (h:n∈l.map (·.1)):∃v,look l n=some v:=by
 induction l with
 | nil=>simp at h
 | cons x l ih=>
  obtain ⟨k,v⟩:=x;rw [aV];split
  ·exact ⟨v,rfl⟩
  ·rename_i a;simp only [ge,cN] at h;exact ih (h.resolve_left λe=>a e.symm)
theorem QQ (s:St) (r:Rec) (t:Nat):look (s.put r).T t=if r.dst=some t then some r.val else look s.T t:=by
 unfold St.put St.app;cases a:r.dst with
 | none=>simp
 | some d=>
  simp only [aV];by_cases h:d=t
  ·subst h;simp
  ·simp [h]
theorem PN (s:St) (r:Rec) (b:Nat):look (s.put r).H b=(look r.wr b).or (look s.H b):=qH _ _ _
theorem W8 (s:St) (r:Rec):(s.put r).nb=s.nb:=rfl
structure Eqv (s s':St):Prop where
 T:∀t,look s.T t=look s'.T t
 H:∀b,look s.H b=look s'.H b
 nb:s.nb=s'.nb
 lo:s.lo=s'.lo
 ro:s.ro=s'.ro
 rb:s.rb=s'.rb
theorem Eqv.refl (s:St):Eqv s s:=⟨λ_=>rfl,λ_=>rfl,rfl,rfl,rfl,rfl⟩
theorem Eqv.symm {s s':St} (h:Eqv s s'):Eqv s' s:=⟨λt=>(h.T t).symm,λb=>(h.H b).symm,h.nb.symm,h.lo.symm,h.ro.symm,h.rb.symm⟩
theorem Eqv.trans {a b c:St} (h:Eqv a b) (k:Eqv b c):Eqv a c:=⟨λt=>(h.T t).trans (k.T t),λt=>(h.H t).trans (k.H t),h.nb.trans k.nb,h.lo.trans k.lo,h.ro.trans k.ro,h.rb.trans k.rb⟩
theorem Eqv.put {s s':St} (h:Eqv s s') (r:Rec):Eqv (s.put r) (s'.put r):=
 ⟨λt=>by rw [QQ,QQ,h.T],λb=>by rw [PN,PN,h.H],h.nb,h.lo,h.ro,h.rb⟩
theorem Eqv.puts:∀(l:List Rec) {s s':St},Eqv s s'->Eqv (l.foldl St.put s) (l.foldl St.put s')
 | [],_,_,h=>h
 | r::l,_,_,h=>Eqv.puts l (h.put r)
theorem Inv.eqv {n:Nat} {ι0 ι:Inj} {w0:Base} {s s':St} {a:Act} {w:World} (h:Inv n ι0 w0 ι s a w) (e:Eqv s s'):Inv n ι0 w0 ι s' a w:=
 ⟨h.size,h.defers,λt v E=>h.tmps t v (by rw [e.T];exact E),⟨h.mem.inj,λb r C=>by rw [<-e.nb];exact h.mem.low b r C,h.mem.dom,λb blk G F=>h.mem.blk b blk (by rw [e.H];exact G) F⟩,by rw [<-e.rb];exact h.ext,h.new,by rw [<-e.ro];exact h.fr,λb r C=>by rw [<-e.lo];exact h.low b r C,by rw [<-e.ro];exact h.fz,by rw [<-e.ro];exact h.gl⟩
def appD:Nat->List Rec->(Nat->Bool)->St->St
 | _,[],_,s=>s
 | i,r::l,D,s=>appD (i+1) l D (if D i=true then s.put r else s)
def yy:Nat->List Rec->(Nat->Bool)->Nat->Option (Option V)->Option (Option V)
 | _,[],_,_,x=>x
 | i,r::l,D,t,x=>yy (i+1) l D t (if D i=true/\r.dst=some t then some r.val else x)
def yx:Nat->List Rec->(Nat->Bool)->Nat->Option Blk->Option Blk
 | _,[],_,_,x=>x
 | i,r::l,D,b,x=>yx (i+1) l D b (if D i=true then (look r.wr b).or x else x)
theorem Ad:∀(l:List Rec) (i:Nat) (D:Nat->Bool) (s:St) (t:Nat),look (appD i l D s).T t=yy i l D t (look s.T t)
 | [],_,_,_,_=>rfl
 | r::l,i,D,s,t=>by
  simp only [appD,yy,Ad l];congr 1;cases D i
  ·simp
  ·simp only [kP,aM];rw [QQ]
theorem xq:∀(l:List Rec) (i:Nat) (D:Nat->Bool) (s:St) (b:Nat),look (appD i l D s).H b=yx i l D b (look s.H b)
 | [],_,_,_,_=>rfl
 | r::l,i,D,s,b=>by
  simp only [appD,yx,xq l];congr 1;cases D i
  ·simp
  ·simp only [aM];rw [PN]
theorem mf:∀(l:List Rec) (i:Nat) (D:Nat->Bool) (s:St),(appD i l D s).nb=s.nb
 | [],_,_,_=>rfl
 | r::l,i,D,s=>by
  simp only [appD,mf l];split<;>rfl
theorem jr:∀(l:List Rec) (i:Nat) (D:Nat->Bool) (s:St),(appD i l D s).ro=s.ro
 | [],_,_,_=>rfl
 | r::l,i,D,s=>by
  simp only [appD,jr l];split<;>rfl
theorem ya:∀(l:List Rec) (i:Nat) (D:Nat->Bool) (s:St),(appD i l D s).lo=s.lo
 | [],_,_,_=>rfl
 | r::l,i,D,s=>by
  simp only [appD,ya l];split<;>rfl
theorem xJ:∀(l:List Rec) (i:Nat) (D:Nat->Bool) (s:St),(appD i l D s).rb=s.rb
 | [],_,_,_=>rfl
 | r::l,i,D,s=>by
  simp only [appD,xJ l];split<;>rfl
theorem ui:∀(l:List Rec) (i:Nat) (D a:Nat->Bool) (t:Nat) (x:Option (Option V)),(∀j r,l[j]?=some r->r.dst=some t->D (i+j)=a (i+j))->yy i l D t x=yy i l a t x
 | [],_,_,_,_,_,_=>rfl
 | r::l,i,D,a,t,x,h=>by
  simp only [yy];have b:=h 0 r (by simp);simp only [cM] at b;rw [ui l (i+1) D a t _ λj f e d=>by have:=h (j+1) f (by simpa using e) d;rwa [show i+(j+1)=i+1+j by omega] at this];congr 1;by_cases c:r.dst=some t
  ·rw [b c]
  ·simp [c]
theorem AD (l:List Rec) (i:Nat) (D:Nat->Bool) (t:Nat) (x:Option (Option V)) (h:∀j r,l[j]?=some r->r.dst=some t->D (i+j)=false):yy i l D t x=x:=by
 induction l generalizing i x with
 | nil=>rfl
 | cons r l ih=>
  simp only [yy];have b:=h 0 r (by simp);simp only [cM] at b;have:¬(D i=true/\r.dst=some t):=λ⟨a,f⟩=>by rw [b f] at a;cases a
  rw [ab this];exact ih (i+1) x λj e d c=>by have:=h (j+1) e (by simpa using d) c;rwa [show i+(j+1)=i+1+j by omega] at this
theorem IU:∀(l:List Rec) (i j:Nat) (D:Nat->Bool) (t:Nat) (x:Option (Option V)) (r:Rec),l[j]?=some r->D (i+j)=true->r.dst=some t->
  (∀k b,j<k->l[k]?=some b->b.dst=some t->D (i+k)=false)->yy i l D t x=some r.val
 | [],_,_,_,_,_,_,h,_,_,_=>by simp at h
 | r0::l,i,0,D,t,x,r,h,e,d,a=>by
  simp only [lR,av] at h;subst h;simp only [cM] at e;simp only [yy];rw [ae ⟨e,d⟩];exact AD l (i+1) D t _ λk b f c=>by have:=a (k+1) b (by omega) (by simpa using f) c;rwa [show i+(k+1)=i+1+k by omega] at this
 | r0::l,i,j+1,D,t,x,r,h,e,d,a=>by
  simp only [yy]
  exact IU l (i+1) j D t _ r (by simpa using h) (by rwa [show i+1+j=i+(j+1) by omega]) d λk b f g c=>by
   have:=a (k+1) b (by omega) (by simpa using g) c;rwa [show i+(k+1)=i+1+k by omega] at this
theorem qy:∀(l:List Rec) (i:Nat) (D a:Nat->Bool) (b:Nat) (x:Option Blk),(∀j r,l[j]?=some r->b∈keys r.wr->D (i+j)=a (i+j))->yx i l D b x=yx i l a b x
 | [],_,_,_,_,_,_=>rfl
 | r::l,i,D,a,b,x,h=>by
  simp only [yx];have c:=h 0 r (by simp);simp only [cM] at c;rw [qy l (i+1) D a b _ λj g f e=>by have:=h (j+1) g (by simpa using f) e;rwa [show i+(j+1)=i+1+j by omega] at this];congr 1;by_cases d:b∈keys r.wr
  ·rw [c d]
  ·simp [so d]
theorem J2 (l:List Rec) (i:Nat) (D:Nat->Bool) (b:Nat) (x:Option Blk) (h:∀j r,l[j]?=some r->b∈keys r.wr->D (i+j)=false):yx i l D b x=x:=by
 induction l generalizing i x with
 | nil=>rfl
 | cons r l ih=>
  simp only [yx];have a:=h 0 r (by simp);simp only [cM] at a;have:(if D i=true then (look r.wr b).or x else x)=x:=by
   by_cases c:b∈keys r.wr
   ·rw [a c];simp
   ·rw [so c];simp
  rw [this];exact ih (i+1) x λj f e d=>by have:=h (j+1) f (by simpa using e) d;rwa [show i+(j+1)=i+1+j by omega] at this
theorem Hl:∀(l:List Rec) (i j:Nat) (D:Nat->Bool) (b:Nat) (x:Option Blk) (r:Rec),l[j]?=some r->D (i+j)=true->b∈keys r.wr->
  (∀k c,j<k->l[k]?=some c->b∈keys c.wr->D (i+k)=false)->yx i l D b x=look r.wr b
 | [],_,_,_,_,_,_,h,_,_,_=>by simp at h
 | r0::l,i,0,D,b,x,r,h,f,e,a=>by
  simp only [lR,av] at h;subst h;simp only [cM] at f;simp only [yx];obtain ⟨v,m⟩:=sX e;rw [ae f,m];exact J2 l (i+1) D b _ λk c g d=>by have:=a (k+1) c (by omega) (by simpa using g) d;rwa [show i+(k+1)=i+1+k by omega] at this
 | r0::l,i,j+1,D,b,x,r,h,f,e,a=>by
  simp only [yx]
  exact Hl l (i+1) j D b _ r (by simpa using h) (by rwa [show i+1+j=i+(j+1) by omega]) e λk c g n d=>by
   have:=a (k+1) c (by omega) (by simpa using n) d;rwa [show i+(k+1)=i+1+k by omega] at this
theorem rl:∀(l:List Rec) (i j:Nat) (s:St),Eqv ((l.take j).foldl St.put s) (appD i l (λm=>decide (m<i+j)) s)
 | [],i,j,s=>by simp [appD];exact Eqv.refl s
 | r::l,i,0,s=>by
  have:∀(l:List Rec) (i a:Nat) (s:St),i<=a->appD a l (λm=>decide (m<i)) s=s:=by
   intro l
   induction l with
   | nil=>intros;rfl
   | cons r l ih=>intro i a s h;simp only [appD,show ¬a<i by omega,oC,bz,aE];exact ih i (a+1) s (by omega)
  simp only [nj,Iq,cM];rw [this (r::l) i i s (aX _)];exact Eqv.refl s
 | r::l,i,j+1,s=>by
  simp only [np,vU,appD,show i<i+(j+1) by omega,o9,aM];have:=rl l (i+1) j (s.put r);rwa [show (λm=>decide (m<i+1+j))=λm=>decide (m<i+(j+1)) by funext m;simp only [n8];omega] at this
theorem Bh:∀(l:List Rec) (i:Nat) (D:Nat->Bool) (s:St),(∀j,j<l.length->D (i+j)=true)->appD i l D s=l.foldl St.put s
 | [],_,_,_,_=>rfl
 | r::l,i,D,s,h=>by
  have a:=h 0 (by simp);simp only [cM] at a;simp only [appD,a,aM,vU];exact Bh l (i+1) D _ λj b=>by have:=h (j+1) (by simpa using b);rwa [show i+(j+1)=i+1+j by omega] at this
def vt (P:Program) (n nb0:Nat) (ops:List Oper) (i:Nat) (o:Oper) (r:Rec) (base:St):Prop:=
 ∀s':St,(∀t∈o.looksAt ops.toArray,look s'.T t=look base.T t)->(∀b∈r.rd,look s'.H b=look base.H b)->s'.nb=base.nb->s'.ro=base.ro->
  ∀(ι0:Inj) (w0:Base) (ι:Inj) (a:Act) (w:World),Inv n ι0 w0 ι s' a w->(∀b,nb0+8*i<=b->b<nb0+8*i+8->ι b=none)->∀(K:Act->World->Prop) (Q:Exit->Act->World->Prop),
   (∀c d w',(∀b,(b<nb0+8*i\/nb0+8*i+8<=b)->c b=ι b)->Inv n ι0 w0 c (s'.put r) d w'->K d w')->
   if Region.wanted o (yielded ops.toArray a.tmps) then o.wp P a w K Q else K (a.put o.dst undef) w
def Ax (P:Program) (n nb0:Nat) (ops:List Oper) (i:Nat) (o:Oper) (v:V) (wr:List (Nat×Blk)) (rd:List Nat) (base:St):Prop:=
 ∀s':St,(∀t∈o.looksAt ops.toArray,look s'.T t=look base.T t)->(∀b∈rd,look s'.H b=look base.H b)->s'.nb=base.nb->s'.ro=base.ro->
  ∀(ι0:Inj) (w0:Base) (ι:Inj) (a:Act) (w:World),Inv n ι0 w0 ι s' a w->(∀b,nb0+8*i<=b->b<nb0+8*i+8->ι b=none)->∀(K:Act->World->Prop) (Q:Exit->Act->World->Prop),
   (∀c x w',VR c v x->Inv n ι0 w0 c (s'.app none none wr s'.nb) a w'->Q (.panic [{ v:=x,recovered:=false }]) a w')->
   Region.wanted o (yielded ops.toArray a.tmps)=true/\o.wp P a w K Q
theorem Ax.eqv {n nb0:Nat} {ops:List Oper} {i:Nat} {o:Oper} {v:V} {wr:List (Nat×Blk)} {rd:List Nat} {base C:St} (h:Ax P n nb0 ops i o v wr rd base) (e:Eqv base C):Ax P n nb0 ops i o v wr rd C:=
 λs' F O Q E=>h s' (λt G=>by rw [F t G,e.T]) (λb J=>by rw [O b J,e.H]) (by rw [Q,e.nb]) (by rw [E,e.ro])
theorem vt.eqv {n nb0:Nat} {ops:List Oper} {i:Nat} {o:Oper} {r:Rec} {base C:St} (h:vt P n nb0 ops i o r base) (e:Eqv base C):vt P n nb0 ops i o r C:=
 λs' F O Q E=>h s' (λt G=>by rw [F t G,e.T]) (λb J=>by rw [O b J,e.H]) (by rw [Q,e.nb]) (by rw [E,e.ro])
theorem Aa {α:Type} {ops:List Oper} {o:Oper} {s:St} {k:Bool->St->Option α} {z:α} (h:xd ops o s k=some z):
  ∃c r,k c r=some z/\Eqv r s/\∀s':St,(∀t∈o.looksAt ops.toArray,look s'.T t=look s.T t)->∀(n:Nat) (ι0 ι:Inj) (w0:Base) (a:Act) (w:World),Inv n ι0 w0 ι s' a w->
   Region.wanted o (yielded ops.toArray a.tmps)=c:=by
 unfold xd at h;split at h
 ·rename_i l;exact ⟨true,s,h,Eqv.refl s,λ_ _ _ _ _ _ _ _ _=>by simp [Region.wanted,l]⟩
 ·rename_i j c l;split at h
  case h_2=>cases h
  rename_i d i;have f:d∈o.looksAt ops.toArray:=by
   unfold Oper.looksAt;unfold gtmp at i;split at i
   ·rename_i v q;simp [l,q,i]
   ·cases i
  have again:∀x,look s.T d=some (some (.b x))->Eqv { s with T:=(d,some (V.b x))::s.T } s:=by
   intro x hx;refine ⟨λt=>?_,λ_=>rfl,rfl,rfl,rfl,rfl⟩;show look ((d,some (V.b x))::s.T) t=look s.T t;rw [aV];split
   ·rename_i e;subst e;exact hx.symm
   ·rfl
  split at h
  ·rename_i x hx;cases x
   ·refine ⟨!c,_,h,again _ hx,λs' hs n ι0 ι w0 a w m=>?_⟩;obtain ⟨y,p,g⟩:=m.tmps d _ (by rw [hs d f];exact hx);simp only [VR] at g;subst g;have hy:=sS i a.tmps;rw [p] at hy;cases c<;>simp [Region.wanted,l,hy]
   ·refine ⟨c,_,h,again _ hx,λs' hs n ι0 ι w0 a w m=>?_⟩;obtain ⟨y,p,g⟩:=m.tmps d _ (by rw [hs d f];exact hx);simp only [VR] at g;subst g;have hy:=sS i a.tmps;rw [p] at hy;cases c<;>simp [Region.wanted,l,hy]
  ·rename_i hx;refine ⟨false,s,h,Eqv.refl s,λs' hs n ι0 ι w0 a w m=>?_⟩;obtain ⟨y,p,g⟩:=m.tmps d _ (by rw [hs d f];exact hx);simp only [VR] at g;obtain ⟨u,rfl,_⟩:=g;have hy:=sS i a.tmps;rw [p] at hy;simp [Region.wanted,l,hy]
  ·cases h
theorem xl {ops:Array Oper} {o:Oper} {s s':St} (h:∀t∈o.looksAt ops,look s'.T t=look s.T t):∀x∈o.op.operands.toList,opd s'.T x=opd s.T x:=by
 intro x hx;cases x with
 | tmp t=>
  have:=h t (by
   unfold Oper.looksAt;simp only [lg,List.mem_filterMap];exact .inl ⟨.tmp t,hx,rfl⟩)
  simp only [opd,this]
 | _=>rfl
theorem Mc {α:Type} {E:List Ent} (hE:∀x∈E,fM P x) {n nb0:Nat} {ops:List Oper} {masks:List Nat} {p:Nat} {k:List TE->Option α} {z:α}:∀(l:List Oper) (i:Nat) (s:St) (tr:List TE),
  nb0+8*(i+l.length)<=s.nb->runB P E n nb0 ops masks p i l s tr k=some z->
  ∃(recs:List Rec) (trf:List TE),recs.length=l.length/\k trf=some z/\(∀x∈tr,x∈trf)/\
   (∀j r,recs[j]?=some r->(⟨i+j,r.rd,keys r.wr⟩:TE)∈trf\/(r.rd=[]/\r.wr=[]))/\
   ∀(j:Nat) (o:Oper) (r:Rec),l[j]?=some o->recs[j]?=some r->r.dst=o.dst/\((getN masks (i+j)).testBit p=false->vt P n nb0 ops (i+j) o r ((recs.take j).foldl St.put s))
 | [],i,s,tr,F,h=>⟨[],tr,rfl,h,λ_ h=>h,λj r h=>by simp at h,λj o r h=>by simp at h⟩
 | o::l,i,s,tr,F,h=>by
  simp only [aC] at F;simp only [runB] at h;have more:∀(e:Rec) (d:List TE) (C:St),e.dst=o.dst->((getN masks i).testBit p=false->vt P n nb0 ops i o e s)->Eqv C (s.put e)->s.nb<=C.nb->(∀x∈tr,x∈d)->((⟨i,e.rd,keys e.wr⟩:TE)∈d\/(e.rd=[]/\e.wr=[]))->
    runB P E n nb0 ops masks p (i+1) l C d k=some z->∃(recs:List Rec) (trf:List TE),recs.length=(o::l).length/\k trf=some z/\(∀x∈tr,x∈trf)/\
   (∀j r,recs[j]?=some r->(⟨i+j,r.rd,keys r.wr⟩:TE)∈trf\/(r.rd=[]/\r.wr=[]))/\
   ∀(j:Nat) (D:Oper) (r:Rec),(o::l)[j]?=some D->recs[j]?=some r->r.dst=D.dst/\((getN masks (i+j)).testBit p=false->vt P n nb0 ops (i+j) D r ((recs.take j).foldl St.put s)):=by
   intro e d C N hl e2 Y S R h;obtain ⟨recs,trf,g1,g2,g4,g5,g6⟩:=Mc hE l (i+1) C d (by omega) h;refine ⟨e::recs,trf,by simp [g1],g2,λx hx=>g4 x (S x hx),λj r m=>?_,λj D r U m=>?_⟩
   ·cases j with
    | zero=>simp only [lR,av] at m;subst m;exact R.imp (g4 _) id
    | succ j=>have:=g5 j r (by simpa using m);rwa [show i+1+j=i+(j+1) by omega] at this
   ·cases j with
    | zero=>
     simp only [lR,av] at U m;subst U m;exact ⟨N,hl⟩
    | succ j=>
     obtain ⟨p1,p2⟩:=g6 j D r (by simpa using U) (by simpa using m);rw [show i+1+j=i+(j+1) by omega] at p2;exact ⟨p1,λq=>(p2 q).eqv (by simpa using Eqv.puts (recs.take j) e2)⟩
  split at h
  ·rename_i B;exact more ⟨o.dst,none,[],[]⟩ tr (s.app o.dst none [] s.nb) rfl (λq=>by rw [B] at q;cases q) (Eqv.refl _) (aX _) (λ_ h=>h) (.inr ⟨rfl,rfl⟩) h
  obtain ⟨A,G,h,u,X⟩:=Aa h;have c:G.nb=s.nb:=u.nb;cases A
  ·simp only at h;split at h
   case h_2=>cases h
   rename_i N;refine more ⟨o.dst,some (.tp []),[],[]⟩ tr (G.app o.dst (some (.tp [])) [] G.nb) rfl (λ_ s' J W Z V ι0 w0 ι a w y I K Q O=>?_) (u.put ⟨o.dst,some (.tp []),[],[]⟩) (zi c.symm) (λ_ h=>h) (.inr ⟨rfl,rfl⟩) h;rw [X s' J n ι0 ι w0 a w y];simp only [bz,aE];exact O ι _ _ (λ_ _=>rfl) (y.skip N)
  ·simp only at h;rcases EI hE (by omega) h with ⟨val,wr,rd,g,L,f⟩ | ⟨v,wr,rd,L,f⟩
   ·refine more ⟨o.dst,val,wr,rd⟩ (⟨i,rd,keys wr⟩::tr) (G.app o.dst val wr G.nb) rfl (λ_ s' J W Z V ι0 w0 ι a w y I K Q O=>?_) (u.put ⟨o.dst,val,wr,rd⟩) (zi c.symm) (λx hx=>f7 _ hx) (.inl (by simp [keys])) L;rw [X s' J n ι0 ι w0 a w y];simp only [aM];refine f s' (xl λt ht=>by rw [J t ht,u.T]) (λb q=>by rw [W b q,u.H]) (by rw [Z,c]) (by rw [V,u.ro]) ι0 w0 ι a w y (by simpa using I) K Q λM a' w' z1 z2=>O M a' w' (by simpa using z1) z2
   ·cases L
theorem Bl {α:Type} {E:List Ent} (hE:∀x∈E,fM P x) {n nb0:Nat} {ops:List Oper} {masks:List Nat} {k:St->List TE->Option α} {kp:Nat->V->St->List TE->Option α} {z:α}:∀(l:List Oper) (i:Nat) (s:St) (tr:List TE),
  nb0+8*(i+l.length)<=s.nb->runD P E n nb0 ops masks kp i l s tr k=some z->
  (∃(recs:List Rec) (d:St) (trf:List TE),recs.length=l.length/\k d trf=some z/\Eqv d (recs.foldl St.put s)/\(∀x∈tr,x∈trf)/\
   (∀j r,recs[j]?=some r->(⟨i+j,r.rd,keys r.wr⟩:TE)∈trf\/(r.rd=[]/\r.wr=[]))/\
   ∀(j:Nat) (o:Oper) (r:Rec),l[j]?=some o->recs[j]?=some r->r.dst=o.dst/\vt P n nb0 ops (i+j) o r ((recs.take j).foldl St.put s))\/
  (∃(p:Nat) (op:Oper) (recs:List Rec) (d:St) (L:St) (trf:List TE) (v:V) (wr:List (Nat×Blk)) (m:Rec),recs.length=l.length/\l[p]?=some op/\recs[p]?=some m/\m.dst=op.dst/\m.wr=[]/\L=d.app none none wr d.nb/\kp (i+p) v L trf=some z/\Eqv d ((recs.take p).foldl St.put s)/\(∀x∈tr,x∈trf)/\
   Ax P n nb0 ops (i+p) op v wr m.rd ((recs.take p).foldl St.put s)/\
   (∀j r,recs[j]?=some r->j≠p->(⟨i+j,r.rd,keys r.wr⟩:TE)∈trf\/(r.rd=[]/\r.wr=[]))/\
   ∀(j:Nat) (o:Oper) (r:Rec),l[j]?=some o->recs[j]?=some r->r.dst=o.dst/\((j<p\/(p<j/\(getN masks (i+j)).testBit (i+p)=false))->vt P n nb0 ops (i+j) o r ((recs.take j).foldl St.put s)))
 | [],i,s,tr,hnb,h=>.inl ⟨[],s,tr,rfl,h,Eqv.refl s,λ_ h=>h,λj r h=>by simp at h,λj o r h=>by simp at h⟩
 | o::l,i,s,tr,hnb,h=>by
  simp only [aC] at hnb;simp only [runD] at h;obtain ⟨R,G,h,y,hw⟩:=Aa h;have e:G.nb=s.nb:=y.nb;have more:∀(B:Rec) (u:List TE) (U:St),B.dst=o.dst->vt P n nb0 ops i o B s->Eqv U (s.put B)->s.nb<=U.nb->(∀x∈tr,x∈u)->((⟨i,B.rd,keys B.wr⟩:TE)∈u\/(B.rd=[]/\B.wr=[]))->
    runD P E n nb0 ops masks kp (i+1) l U u k=some z->
    (∃(recs:List Rec) (d:St) (trf:List TE),recs.length=(o::l).length/\k d trf=some z/\Eqv d (recs.foldl St.put s)/\(∀x∈tr,x∈trf)/\
   (∀j r,recs[j]?=some r->(⟨i+j,r.rd,keys r.wr⟩:TE)∈trf\/(r.rd=[]/\r.wr=[]))/\
   ∀(j:Nat) (f:Oper) (r:Rec),(o::l)[j]?=some f->recs[j]?=some r->r.dst=f.dst/\vt P n nb0 ops (i+j) f r ((recs.take j).foldl St.put s))\/
    (∃(p:Nat) (op:Oper) (recs:List Rec) (d:St) (L:St) (trf:List TE) (v:V) (wr:List (Nat×Blk)) (m:Rec),recs.length=(o::l).length/\(o::l)[p]?=some op/\recs[p]?=some m/\m.dst=op.dst/\m.wr=[]/\L=d.app none none wr d.nb/\kp (i+p) v L trf=some z/\Eqv d ((recs.take p).foldl St.put s)/\(∀x∈tr,x∈trf)/\
   Ax P n nb0 ops (i+p) op v wr m.rd ((recs.take p).foldl St.put s)/\
   (∀j r,recs[j]?=some r->j≠p->(⟨i+j,r.rd,keys r.wr⟩:TE)∈trf\/(r.rd=[]/\r.wr=[]))/\
   ∀(j:Nat) (f:Oper) (r:Rec),(o::l)[j]?=some f->recs[j]?=some r->r.dst=f.dst/\((j<p\/(p<j/\(getN masks (i+j)).testBit (i+p)=false))->vt P n nb0 ops (i+j) f r ((recs.take j).foldl St.put s))):=by
   intro B u U hd hl J hnb2 htr Z h;rcases Bl hE l (i+1) U u (by omega) h with ⟨recs,d,trf,X,N,g3,M,g5,S⟩ | ⟨p,op,recs,d,L,trf,v,wr,m,X,g0,gr,gd,gw,gs,N,g3,M,g7,g5,S⟩
   ·refine .inl ⟨B::recs,d,trf,by simp [X],N,g3.trans (Eqv.puts recs J),λx hx=>M x (htr x hx),λj r c=>?_,λj f r A c=>?_⟩
    ·cases j with
     | zero=>simp only [lR,av] at c;subst c;exact Z.imp (M _) id
     | succ j=>have:=g5 j r (by simpa using c);rwa [show i+1+j=i+(j+1) by omega] at this
    ·cases j with
     | zero=>
      simp only [lR,av] at A c;subst A c;exact ⟨hd,hl⟩
     | succ j=>
      obtain ⟨p1,I⟩:=S j f r (by simpa using A) (by simpa using c);rw [show i+1+j=i+(j+1) by omega] at I;exact ⟨p1,I.eqv (by simpa using Eqv.puts (recs.take j) J)⟩
   ·rw [show i+1+p=i+(p+1) by omega] at N g7;refine .inr ⟨p+1,op,B::recs,d,L,trf,v,wr,m,by simp [X],by simpa using g0,by simpa using gr,gd,gw,gs,N,g3.trans (by simpa using Eqv.puts (recs.take p) J),λx hx=>M x (htr x hx),g7.eqv (by simpa using Eqv.puts (recs.take p) J),λj r c Y=>?_,λj f r A c=>?_⟩
    ·cases j with
     | zero=>simp only [lR,av] at c;subst c;exact Z.imp (M _) id
     | succ j=>have:=g5 j r (by simpa using c) (by omega);rwa [show i+1+j=i+(j+1) by omega] at this
    ·cases j with
     | zero=>
      simp only [lR,av] at A c;subst A c;exact ⟨hd,λ_=>hl⟩
     | succ j=>
      obtain ⟨p1,I⟩:=S j f r (by simpa using A) (by simpa using c);rw [show i+1+j=i+(j+1) by omega,show i+1+p=i+(p+1) by omega] at I;exact ⟨p1,λhc=>(I (hc.imp (λh=>by omega) λh=>⟨by omega,h.2⟩)).eqv (by simpa using Eqv.puts (recs.take j) J)⟩
  cases R
  ·simp only at h;split at h
   case h_2=>cases h
   rename_i hd;refine more ⟨o.dst,some (.tp []),[],[]⟩ tr (G.app o.dst (some (.tp [])) [] G.nb) rfl (λs' F q2 q3 O ι0 w0 ι a w D C K Q W=>?_) (y.put ⟨o.dst,some (.tp []),[],[]⟩) (zi e.symm) (λ_ h=>h) (.inr ⟨rfl,rfl⟩) h;rw [hw s' F n ι0 ι w0 a w D];simp only [bz,aE];exact W ι _ _ (λ_ _=>rfl) (D.skip hd)
  ·simp only at h;rcases EI hE (by omega) h with ⟨val,wr,rd,g,hk,q⟩ | ⟨v,wr,rd,hk,q⟩
   ·refine more ⟨o.dst,val,wr,rd⟩ (⟨i,rd,keys wr⟩::tr) (G.app o.dst val wr G.nb) rfl (λs' F q2 q3 O ι0 w0 ι a w D C K Q W=>?_) (y.put ⟨o.dst,val,wr,rd⟩) (zi e.symm) (λx hx=>f7 _ hx) (.inl (by simp [keys])) hk;rw [hw s' F n ι0 ι w0 a w D];simp only [aM];refine q s' (xl λt ht=>by rw [F t ht,y.T]) (λb hb=>by rw [q2 b hb,y.H]) (by rw [q3,e]) (by rw [O,y.ro]) ι0 w0 ι a w D (by simpa using C) K Q λι' a' w' z1 z2=>W ι' a' w' (by simpa using z1) z2
   ·obtain ⟨recs,trf,X,N,M,g5,S⟩:=Mc hE l (i+1) _ tr (by simp only [St.app];omega) hk;have J:Eqv (G.app o.dst none [] G.nb) (s.put ⟨o.dst,none,[],rd⟩):=y.put ⟨o.dst,none,[],rd⟩;refine .inr ⟨0,o,⟨o.dst,none,[],rd⟩::recs,G,_,trf,v,wr,⟨o.dst,none,[],rd⟩,by simp [X],rfl,rfl,rfl,rfl,rfl,N,y,M,λs' F q2 q3 O ι0 w0 ι a w D C K Q W=>?_,λj r c Y=>?_,λj f r A c=>?_⟩
    ·simp only [nj,Iq] at F q2 q3 O;exact ⟨hw s' F n ι0 ι w0 a w D,q s' (xl λt ht=>by rw [F t ht,y.T]) (λb hb=>by rw [q2 b hb,y.H]) (by rw [q3,e]) (by rw [O,y.ro]) ι0 w0 ι a w D (by simpa using C) K Q W⟩
    ·cases j with
     | zero=>exact absurd rfl Y
     | succ j=>have:=g5 j r (by simpa using c);rwa [show i+1+j=i+(j+1) by omega] at this
    ·cases j with
     | zero=>
      simp only [lR,av] at A c;subst A c;exact ⟨rfl,λh=>by omega⟩
     | succ j=>
      obtain ⟨p1,I⟩:=S j f r (by simpa using A) (by simpa using c);rw [show i+1+j=i+(j+1) by omega] at I;refine ⟨p1,λhc=>(I ?_).eqv (by simpa using Eqv.puts (recs.take j) J)⟩;rcases hc with hc | hc
      ·omega
      ·exact hc.2
def Down (ops:List Oper) (D:Nat->Bool):Prop:=∀j o e,ops[j]?=some o->D j=true->e∈o.after.toList->Region.binds .any e=true->D e.on=true
def Must (ops:List Oper) (i j:Nat):Prop:=∀D,Down ops D->D j=true->D i=true
def Dn (a:Array Bool):Nat->Bool:=λi=>a.getD i false
structure DrawFacts (P:Program) (n nb0:Nat) (ops:List Oper) (recs:List Rec) (s0:St) (live:Nat->Prop):Prop where
 len:recs.length=ops.length
 nb:s0.nb=nb0+8*ops.length
 loc:∀(j:Nat) (o:Oper) (r:Rec),ops[j]?=some o->recs[j]?=some r->(∀t,r.dst=some t->o.dst=some t)/\(live j->vt P n nb0 ops j o r (appD 0 recs (λm=>decide (m<j)) s0))
 down:∀(j:Nat) (o:Oper) (e:Edge),ops[j]?=some o->e∈o.after.toList->Region.binds .any e=true->e.on<j
 apart:∀(i j:Nat) (x y:Oper),i<j->ops[i]?=some x->ops[j]?=some y->Must ops i j\/x.apart ops.toArray y=true
 blk:∀(i j:Nat) (x y:Rec),i<j->recs[i]?=some x->recs[j]?=some y->Must ops i j\/((∀b∈keys x.wr,b∉y.rd/\b∉keys y.wr)/\∀b∈x.rd,b∉keys y.wr)
theorem uN {ops:List Oper} {a:Array Bool} {i:Nat} (hs:a.size=ops.length) (h:i∈Region.ready .any ops.toArray a):
  ∃o,ops[i]?=some o/\i<ops.length/\Dn a i=false/\∀e∈o.after.toList,Region.binds .any e=true->Dn a e.on=true:=by
 unfold Region.ready at h;simp only [mg,jA,az,y4] at h;obtain ⟨b,d,f⟩:=h;have c:ops[i]?=some ops[i]:=by simp [b]
 refine ⟨ops[i],c,b,?_,λe j g=>?_⟩
 ·unfold Dn;have:i<a.size:=by omega
  simp only [rq,Wt this,xW] at d ⊢;simpa using d
 ·simp only [List.getElem?_toArray,c,fg,xW] at f;have:=(Array.all_eq_true'.1 f) e (by simpa using j);simp only [g,du,oO] at this;exact this
theorem CP {ops:List Oper} {a:Array Bool} {i:Nat} {o:Oper} (hs:a.size=ops.length) (c:ops[i]?=some o) (b:Dn a i=false)
  (g:∀e∈o.after.toList,Region.binds .any e=true->Dn a e.on=true):i∈Region.ready .any ops.toArray a:=by
 have hi:i<ops.length:=by
  rcases aH i ops.length with d | d
  ·exact d
  ·rw [ga d] at c;cases c
 unfold Region.ready;simp only [mg,jA,az,y4];refine ⟨hi,?_,?_⟩
 ·have:i<a.size:=by omega
  unfold Dn at b;simp only [rq,Wt this,xW] at b ⊢;simp [b]
 ·simp only [List.getElem?_toArray,c,fg,xW];refine Array.all_eq_true'.2 λe h=>?_;cases f:Region.binds .any e with
  | false=>rfl
  | true=>
   have:=g e (by simpa using h) f;unfold Dn at this;simpa using this
theorem AQ {a:Array Bool} {i:Nat} (h:i<a.size) (j:Nat):Dn (a.setIfInBounds i true) j=if j=i then true else Dn a j:=by
 unfold Dn;simp only [rq];rw [Ui];by_cases b:i=j
 ·subst b;simp [h]
 ·simp [b,show ¬j=i from λe=>b e.symm]
theorem Down.add {ops:List Oper} {D:Nat->Bool} (h:Down ops D) {i:Nat} {o:Oper} (Q:ops[i]?=some o) (U:∀e∈o.after.toList,Region.binds .any e=true->D e.on=true):
  Down ops λj=>if j=i then true else D j:=by
 intro j O e E G J F;show (if e.on=i then true else D e.on)=true;by_cases C:j=i
 ·subst C;rw [Q] at E;cases E;have:=U e J F;split
  ·rfl
  ·exact this
 ·simp only [C,aE] at G;have:=h j O e E G J F;split
  ·rfl
  ·exact this
theorem Must.in {ops:List Oper} {D:Nat->Bool} (h:Down ops D) {i k:Nat} {o:Oper} (E:ops[i]?=some o) (G:∀e∈o.after.toList,Region.binds .any e=true->D e.on=true)
  (F:Must ops k i) (C:k≠i):D k=true:=by
 have:=F _ (h.add E G) (by simp);simpa [C] using this
section
variable {n nb0:Nat} {ops:List Oper} {recs:List Rec} {s0:St} {live:Nat->Prop} (F:DrawFacts P n nb0 ops recs s0 live)
include F
theorem yp {i:Nat} {o:Oper} (h:ops[i]?=some o):∃r,recs[i]?=some r:=by
 have hi:i<ops.length:=by
  rcases aH i ops.length with a | a
  ·exact a
  ·rw [ga a] at h;cases h
 exact ⟨recs[i]'(by rw [F.len];exact hi),by simp [F.len,hi]⟩
theorem zr {i:Nat} {r:Rec} (h:recs[i]?=some r):∃o,ops[i]?=some o:=by
 have hi:i<recs.length:=by
  rcases aH i recs.length with a | a
  ·exact a
  ·rw [ga a] at h;cases h
 exact ⟨ops[i]'(by rw [<-F.len];exact hi),by simp [F.len▸hi]⟩
theorem BD {D:Nat->Bool} (v:Down ops D) {i:Nat} {o:Oper} (k:ops[i]?=some o) (q:D i=false) (x:∀e∈o.after.toList,Region.binds .any e=true->D e.on=true)
  {t:Nat} (u:t∈o.looksAt ops.toArray):look (appD 0 recs D s0).T t=look (appD 0 recs (λm=>decide (m<i)) s0).T t:=by
 rw [Ad,Ad];refine ui recs 0 _ _ t _ λj r s w=>?_;simp only [dc];obtain ⟨h,c⟩:=zr F s;have a:=((F.loc j h r c s).1 t w).symm;rcases G2 j i with d | l | p
 ·have f:D j=true:=by
   rcases F.apart j i h o d c k with g | b
   ·exact g.in v k x (by omega)
   ·exact absurd u ((G3 b).1 t a.symm)
  rw [f];simp [d]
 ·subst l;simp [q]
 ·have f:D j=false:=by
   rcases F.apart i j o h p k c with g | b
   ·cases n:D j with
    | false=>rfl
    | true=>have:=g D v n;rw [q] at this;cases this
   ·exact absurd u ((G3 b).2.2 t a.symm)
  rw [f];simp;omega
theorem BQ {D:Nat->Bool} (u:Down ops D) {i:Nat} {o:Oper} {r:Rec} (v:ops[i]?=some o) (n:recs[i]?=some r) (l:D i=false)
  (w:∀e∈o.after.toList,Region.binds .any e=true->D e.on=true) {b:Nat} (q:b∈r.rd):look (appD 0 recs D s0).H b=look (appD 0 recs (λm=>decide (m<i)) s0).H b:=by
 rw [xq,xq];refine qy recs 0 _ _ b _ λj s p t=>?_;simp only [dc];rcases G2 j i with c | g | k
 ·have d:D j=true:=by
   rcases F.blk j i s r c p n with f | a
   ·exact f.in u v w (by omega)
   ·exact absurd q (a.1 b t).1
  rw [d];simp [c]
 ·subst g;simp [l]
 ·have d:D j=false:=by
   rcases F.blk i j r s k n p with f | a
   ·cases h:D j with
    | false=>rfl
    | true=>have:=f D u h;rw [l] at this;cases this
   ·exact absurd t (a.2 b q)
  rw [d];simp;omega
theorem Df {D:Nat->Bool} (A:Down ops D) {i:Nat} {o:Oper} {r:Rec} (C:ops[i]?=some o) (f:recs[i]?=some r) (B:D i=false):
  Eqv ((appD 0 recs D s0).put r) (appD 0 recs (λj=>if j=i then true else D j) s0):=by
 have h:=(F.loc i o r C f).1;refine ⟨λt=>?_,λb=>?_,by rw [W8,mf,mf],by show (appD 0 recs D s0).lo=_;rw [ya,ya],by show (appD 0 recs D s0).ro=_;rw [jr,jr],by show (appD 0 recs D s0).rb=_;rw [xJ,xJ]⟩
 ·rw [QQ,Ad,Ad];by_cases g:r.dst=some t
  ·rw [ae g];symm;refine IU recs 0 i _ t _ r f (by simp) g λk n q c x=>?_;simp only [dc,show ¬k=i by omega,aE];obtain ⟨ok,m⟩:=zr F c;have u:=(F.loc k ok n m c).1;rcases F.apart i k o ok q C m with s | e
   ·cases d:D k with
    | false=>rfl
    | true=>have:=s D A d;rw [B] at this;cases this
   ·exact absurd (u t x) ((G3 e).2.1 t (h t g))
  ·rw [ab g];refine ui recs 0 _ _ t _ λj n p y=>?_;simp only [dc];by_cases a:j=i
   ·subst a;rw [f] at p;cases p;exact absurd y g
   ·simp [a]
 ·rw [PN,xq,xq];by_cases l:b∈keys r.wr
  ·obtain ⟨v,z⟩:=sX l;rw [z,Option.some_or];symm;rw [<-z];refine Hl recs 0 i _ b _ r f (by simp) l λk n q c w=>?_;simp only [dc,show ¬k=i by omega,aE];rcases F.blk i k r n q f c with s | e
   ·cases d:D k with
    | false=>rfl
    | true=>have:=s D A d;rw [B] at this;cases this
   ·exact absurd w (e.1 b l).2
  ·rw [so l,GB];refine qy recs 0 _ _ b _ λj n p w=>?_;simp only [dc];by_cases a:j=i
   ·subst a;rw [f] at p;cases p;exact absurd w l
   ·simp [a]
theorem Ew {kk:Nat} (z:∀j,kk<=j->j<ops.length->live j) {ι0:Inj} {w0:Base} {Q:Exit->Act->World->Prop} (U:∀ι a w,Inv n ι0 w0 ι (recs.foldl St.put s0) a w->Q .normal a w):
  ∀(fuel:Nat) (c:Array Bool) (ι:Inj) (a:Act) (w:World),c.size=ops.length->(∀j,j<kk->Dn c j=true)->Down ops (Dn c)->Inv n ι0 w0 ι (appD 0 recs (Dn c) s0) a w->
   (∀i,i<ops.length->Dn c i=false->∀b,nb0+8*i<=b->b<nb0+8*i+8->ι b=none)->((List.range ops.length).filter λi=>!Dn c i).length<=fuel->
   wpAny P .any ops.toArray Q fuel c a w:=by
 have B:∀(c:Array Bool) (ι:Inj) (a:Act) (w:World),c.size=ops.length->Inv n ι0 w0 ι (appD 0 recs (Dn c) s0) a w->Region.ready .any ops.toArray c=[]->Q .normal a w:=by
  intro c ι a w hs q p;have C:∀j,j<ops.length->Dn c j=true:=by
   intro j
   induction j using Nat.strongRecOn with
   | _ j ih=>
    intro v;cases M:Dn c j with
    | true=>rfl
    | false=>
     have f:ops[j]?=some ops[j]:=by simp [v]
     have N:=CP hs f M λe O E=>ih e.on (F.down j _ e f O E) (by have:=F.down j _ e f O E;omega);rw [p] at N;cases N
  rw [Bh recs 0 (Dn c) s0 λj v=>by simpa using C j (by rw [<-F.len];exact v)] at q;exact U ι a w q
 intro fuel
 induction fuel with
 | zero=>
  intro c ι a w hs s A q x hc;have p:Region.ready .any ops.toArray c=[]:=by
   rw [List.eq_nil_iff_forall_not_mem];intro i hi;obtain ⟨o,f,g,m,_⟩:=uN hs hi;have:i∈(List.range ops.length).filter λi=>!Dn c i:=by simp [g,m]
   have:=GP this;omega
  exact ⟨p,B c ι a w hs q p⟩
 | succ fuel ih=>
  intro c ι a w hs s A q x hc;refine ⟨B c ι a w hs q,λi hi=>?_⟩;obtain ⟨o,f,g,m,K⟩:=uN hs hi;obtain ⟨r,p⟩:=yp F f;have y:=(F.loc i o r f p).2 (z i (by rcases aH i kk with h | h;(· have:=s i h;rw [m] at this;cases this);exact h) g);have d:Dn (c.setIfInBounds i true)=λj=>if j=i then true else Dn c j:=by
   funext j;exact AQ (by omega) j
  have G:=y (appD 0 recs (Dn c) s0) (λt R=>BD F A f m K R) (λb E=>BQ F A f p m K E) (by rw [mf,mf]) (by rw [jr,jr]) ι0 w0 ι a w q (x i g m)
   (wpAny P .any ops.toArray Q fuel (c.setIfInBounds i true)) Q λJ T w' S V=>by
    refine ih _ J T w' (by simpa using hs) (λj v=>by rw [d];simp only;split;(· rfl);exact s j v) (by rw [d];exact A.add f K) (by rw [d];exact V.eqv (Df F A f p m)) (λj v l b L H=>?_) ?_
    ·rw [d] at l;by_cases k:j=i
     ·simp [k] at l
     ·simp only [k,aE] at l;rw [S b (by omega)];exact x j v l b L H
    ·have:((List.range ops.length).filter λj=>!Dn (c.setIfInBounds i true) j).length<((List.range ops.length).filter λj=>!Dn c j).length:=by
      rw [d];have D:((List.range ops.length).filter λj=>!(if j=i then true else Dn c j))=((List.range ops.length).filter λj=>!Dn c j).filter λj=>decide (j≠i):=by
       rw [Ij];congr 1;funext j;by_cases k:j=i<;>simp [k]
      rw [D];refine BX.2 ⟨i,by simp [g,m],by simp⟩
     omega
  unfold wpOp;have I:ops.toArray[i]?=some o:=by simpa using f
  rw [I];simp only;split
  ·rename_i u;rw [ae u] at G;exact .inl G
  ·rename_i u;rw [ab u] at G;exact G
theorem PI {lim kk:Nat} (D:lim<ops.length) (g:∀j,kk<=j->j<lim->live j/\Must ops j lim) (q:∀j,lim<j->j<ops.length->Must ops lim j) {ι0:Inj} {w0:Base} {Q:Exit->Act->World->Prop}
  (Y:∀(fuel:Nat) (c:Array Bool) (ι:Inj) (a:Act) (w:World),c.size=ops.length->(∀j,j<lim->Dn c j=true)->Dn c lim=false->Down ops (Dn c)->Down ops (Dn (c.setIfInBounds lim true))->
   Inv n ι0 w0 ι (appD 0 recs (Dn c) s0) a w->((List.range ops.length).filter λi=>!Dn c i).length<=fuel+1->wpOp P ops.toArray Q lim (wpAny P .any ops.toArray Q fuel (c.setIfInBounds lim true)) a w):
  ∀(fuel:Nat) (c:Array Bool) (ι:Inj) (a:Act) (w:World),c.size=ops.length->(∀j,j<kk->Dn c j=true)->Down ops (Dn c)->Dn c lim=false->Inv n ι0 w0 ι (appD 0 recs (Dn c) s0) a w->
   (∀i,i<ops.length->Dn c i=false->∀b,nb0+8*i<=b->b<nb0+8*i+8->ι b=none)->((List.range ops.length).filter λi=>!Dn c i).length<=fuel->
   wpAny P .any ops.toArray Q fuel c a w:=by
 have R:∀(c:Array Bool),c.size=ops.length->Dn c lim=false->Region.ready .any ops.toArray c=[]->False:=by
  intro c hs hp x;have E:∀j,j<ops.length->Dn c j=true:=by
   intro j
   induction j using Nat.strongRecOn with
   | _ j ih=>
    intro y;cases S:Dn c j with
    | true=>rfl
    | false=>
     have f:ops[j]?=some ops[j]:=by simp [y]
     have T:=CP hs f S λe U H=>ih e.on (F.down j _ e f U H) (by have:=F.down j _ e f U H;omega);rw [x] at T;cases T
  rw [E lim D] at hp;cases hp
 intro fuel
 induction fuel with
 | zero=>
  intro c ι a w hs k m hp J z hc;have:lim∈(List.range ops.length).filter λi=>!Dn c i:=by simp [D,hp]
  have:=GP this;omega
 | succ fuel ih=>
  intro c ι a w hs k m hp J z hc;refine ⟨λx=>(R c hs hp x).elim,λi hi=>?_⟩;obtain ⟨o,f,s,v,A⟩:=uN hs hi;obtain ⟨r,x⟩:=yp F f;have d:Dn (c.setIfInBounds i true)=λj=>if j=i then true else Dn c j:=by
   funext j;exact AQ (by omega) j
  by_cases B:i=lim
  ·subst B;refine Y fuel c ι a w hs (λj y=>?_) v m (by rw [d];exact m.add f A) J hc;rcases aH j kk with h | h
   ·exact k j h
   ·exact (g j h y).2.in m f A (by omega)
  have L:ops.toArray[i]?=some o:=by simpa using f
  unfold wpOp;rw [L];simp only;have hlt':i<lim:=by
   rcases aH i lim with h | h
   ·exact h
   ·have:=(q i (by omega) s).in m f A (λe=>B e.symm);rw [hp] at this;cases this
  have O:kk<=i:=by
   rcases aH i kk with h | h
   ·have:=k i h;rw [v] at this;cases this
   ·exact h
  have C:=(F.loc i o r f x).2 (g i O hlt').1
  have I:=C (appD 0 recs (Dn c) s0) (λt V=>BD F m f v A V) (λb H=>BQ F m f x v A H) (by rw [mf,mf]) (by rw [jr,jr]) ι0 w0 ι a w J (z i s v)
   (wpAny P .any ops.toArray Q fuel (c.setIfInBounds i true)) Q λM X w' W Z=>by
    refine ih _ M X w' (by simpa using hs) (λj y=>by rw [d];simp only;split;(· rfl);exact k j y) (by rw [d];exact m.add f A) (by rw [d];simp only [show ¬lim=i by omega,aE];exact hp) (by rw [d];exact Z.eqv (Df F m f x v)) (λj y p b N K=>?_) ?_
    ·rw [d] at p;by_cases l:j=i
     ·simp [l] at p
     ·simp only [l,aE] at p;rw [W b (by omega)];exact z j y p b N K
    ·have:((List.range ops.length).filter λj=>!Dn (c.setIfInBounds i true) j).length<((List.range ops.length).filter λj=>!Dn c j).length:=by
      rw [d];have G:((List.range ops.length).filter λj=>!(if j=i then true else Dn c j))=((List.range ops.length).filter λj=>!Dn c j).filter λj=>decide (j≠i):=by
       rw [Ij];congr 1;funext j;by_cases l:j=i<;>simp [l]
      rw [G];refine BX.2 ⟨i,by simp [s,v],by simp⟩
     omega
  split
  ·rename_i u;rw [ae u] at I;exact .inl I
  ·rename_i u;rw [ab u] at I;exact I
theorem Rb {lim:Nat} {ι0:Inj} {w0:Base} {Q:Exit->Act->World->Prop} {po:Oper} {pr:Rec} {v:V} {wr:List (Nat×Blk)} (g:ops[lim]?=some po) (J:recs[lim]?=some pr)
  (Y:Ax P n nb0 ops lim po v wr pr.rd (appD 0 recs (λm=>decide (m<lim)) s0))
  (y:∀j,j<ops.length->j≠lim->live j\/Must ops lim j)
  (hQ:∀D,Down ops D->(∀e∈po.after.toList,Region.binds .any e=true->D e.on=true)->D lim=false->∀ι x a w,VR ι v x->Inv n ι0 w0 ι ((appD 0 recs D s0).app none none wr s0.nb) a w->Q (.panic [{ v:=x,recovered:=false }]) a w):
  ∀(fuel:Nat) (c:Array Bool) (ι:Inj) (a:Act) (w:World),c.size=ops.length->Down ops (Dn c)->Dn c lim=false->Inv n ι0 w0 ι (appD 0 recs (Dn c) s0) a w->
   (∀i,i<ops.length->Dn c i=false->∀b,nb0+8*i<=b->b<nb0+8*i+8->ι b=none)->((List.range ops.length).filter λi=>!Dn c i).length<=fuel->
   wpAny P .any ops.toArray Q fuel c a w:=by
 have H:lim<ops.length:=by
  rcases aH lim ops.length with h' | h'
  ·exact h'
  ·rw [ga h'] at g;cases g
 have X:∀(c:Array Bool),c.size=ops.length->Dn c lim=false->Region.ready .any ops.toArray c=[]->False:=by
  intro c hs hp q;have I:∀j,j<ops.length->Dn c j=true:=by
   intro j
   induction j using Nat.strongRecOn with
   | _ j ih=>
    intro hj;cases hDj:Dn c j with
    | true=>rfl
    | false=>
     have f:ops[j]?=some ops[j]:=by simp [hj]
     have L:=CP hs f hDj λe he E=>ih e.on (F.down j _ e f he E) (by have:=F.down j _ e f he E;omega);rw [q] at L;cases L
  rw [I lim H] at hp;cases hp
 intro fuel
 induction fuel with
 | zero=>
  intro c ι a w hs l hp O s hc;have:lim∈(List.range ops.length).filter λi=>!Dn c i:=by simp [H,hp]
  have:=GP this;omega
 | succ fuel ih=>
  intro c ι a w hs l hp O s hc;refine ⟨λq=>(X c hs hp q).elim,λi hi=>?_⟩;obtain ⟨o,f,h,p,B⟩:=uN hs hi;obtain ⟨r,q⟩:=yp F f;have S:ops.toArray[i]?=some o:=by simpa using f
  unfold wpOp;rw [S];simp only;by_cases z:i=lim
  case neg=>
   rcases y i h z with Z | L
   case inr=>
    have:=L.in l f B (λe=>z e.symm);rw [hp] at this;cases this
   have G:=(F.loc i o r f q).2 Z;have d:Dn (c.setIfInBounds i true)=λj=>if j=i then true else Dn c j:=by
    funext j;exact AQ (by omega) j
   have M:=G (appD 0 recs (Dn c) s0) (λt T=>BD F l f p B T) (λb E=>BQ F l f q p B E) (by rw [mf,mf]) (by rw [jr,jr]) ι0 w0 ι a w O (s i h p)
    (wpAny P .any ops.toArray Q fuel (c.setIfInBounds i true)) Q λA a' w' U N=>by
     refine ih _ A a' w' (by simpa using hs) (by rw [d];exact l.add f B) (by rw [d];simp only [show ¬lim=i by omega,aE];exact hp) (by rw [d];exact N.eqv (Df F l f q p)) (λj hj u b W R=>?_) ?_
     ·rw [d] at u;by_cases k:j=i
      ·simp [k] at u
      ·simp only [k,aE] at u;rw [U b (by omega)];exact s j hj u b W R
     ·have:((List.range ops.length).filter λj=>!Dn (c.setIfInBounds i true) j).length<((List.range ops.length).filter λj=>!Dn c j).length:=by
       rw [d];have K:((List.range ops.length).filter λj=>!(if j=i then true else Dn c j))=((List.range ops.length).filter λj=>!Dn c j).filter λj=>decide (j≠i):=by
        rw [Ij];congr 1;funext j;by_cases k:j=i<;>simp [k]
       rw [K];refine BX.2 ⟨i,by simp [h,p],by simp⟩
      omega
   split
   ·rename_i C;rw [ae C] at M;exact .inl M
   ·rename_i C;rw [ab C] at M;exact M
  case pos=>
   subst z;rw [g] at f;cases f;rw [J] at q;cases q
   obtain ⟨q1,q2⟩:=Y (appD 0 recs (Dn c) s0) (λt T=>BD F l g p B T) (λb E=>BQ F l g J p B E) (by rw [mf,mf]) (by rw [jr,jr]) ι0 w0 ι a w O (s i h p)
    (wpAny P .any ops.toArray Q fuel (c.setIfInBounds i true)) Q λA x w' U N=>hQ _ l B p A x a w' U (by rw [mf] at N;exact N)
   rw [ae q1];exact .inl q2
end
theorem D8:∀{l:List Nat} {j:Nat},l.length<=j->getN l j=0
 | [],_,_=>rfl
 | _::_,0,h=>by simp at h
 | _::l,j+1,h=>D8 (l:=l) (by simpa using h)
theorem tn:∀{l m:List Nat} {j:Nat},j<l.length->getN (l++m) j=getN l j
 | [],_,_,h=>by simp at h
 | _::_,_,0,_=>rfl
 | _::l,m,j+1,h=>tn (l:=l) (m:=m) (by simpa using h)
theorem tg:∀(l:List Nat) (x:Nat),getN (l++[x]) l.length=x
 | [],_=>rfl
 | _::l,x=>tg l x
theorem tM (b:List Nat):∀(l:List Edge) (s i:Nat),(Ft b l s).testBit i=true->s.testBit i=true\/∃e∈l,Region.binds .any e=true/\(e.on=i\/(getN b e.on).testBit i=true)
 | [],s,i,h=>.inl h
 | e::l,s,i,h=>by
  simp only [Ft] at h;split at h
  ·rename_i g;rcases tM b l _ i h with a | ⟨f,c,d⟩
   ·simp only [Nat.testBit_or,ip] at a;rcases a with (a | a) | a
    ·exact .inl a
    ·refine .inr ⟨e,by simp,g,.inl ?_⟩;rw [Nat.testBit_two_pow] at a;simpa using a
    ·exact .inr ⟨e,by simp,g,.inr a⟩
   ·exact .inr ⟨f,f7 _ c,d⟩
  ·rcases tM b l _ i h with a | ⟨f,c,d⟩
   ·exact .inl a
   ·exact .inr ⟨f,f7 _ c,d⟩
theorem qS (ops:List Oper):∀(r:List Oper) (a:List Nat),(∀j,r[j]?=ops[a.length+j]?)->(∀j i,(getN a j).testBit i=true->Must ops i j)->
  ∀j i,(getN (lG r a) j).testBit i=true->Must ops i j
 | [],a,_,h=>h
 | o::r,a,l,h=>by
  simp only [lG];refine qS ops r _ (λj=>by have:=l (j+1);simp only [HF] at this;rw [this];simp;congr 1;omega) λj i b=>?_;rcases G2 j a.length with k | g | s
  ·rw [tn k] at b;exact h j i b
  ·subst g;rw [tg] at b;have p:ops[a.length]?=some o:=by have:=l 0;simpa using this.symm
   rcases tM a _ _ _ b with c | ⟨e,q,d,c⟩
   ·simp at c
   ·intro D n f;have m:=n a.length o e p f q d;rcases c with rfl | c
    ·exact m
    ·exact h e.on i c D n m
  ·rw [D8 (by simp;omega)] at b;simp at b
theorem ki:∀(l:List Oper) (i:Nat),rL i l=true->∀(j:Nat) (o:Oper) (e:Edge),l[j]?=some o->e∈o.after.toList->Region.binds .any e=true->e.on<i+j
 | [],_,_,_,_,_,h,_,_=>by simp at h
 | o::l,i,h,j,d,e,a,c,b=>by
  simp only [rL,az,bW] at h;cases j with
  | zero=>
   simp only [lR,av] at a;subst a;have:=h.1 e c;simp only [b,du,oO] at this;exact aL this
  | succ j=>have:=ki l (i+1) h.2 j d e (by simpa using a) c b;omega
theorem tA {ops:Array Oper} {o:Oper} {a:Nat}:∀(l:List Oper) (i:Nat),uv ops o a i l=true->∀(j:Nat) (p:Oper),l[j]?=some p->a.testBit (i+j)=true\/p.apart ops o=true
 | [],_,_,_,_,h=>by simp at h
 | q::l,i,h,j,p,b=>by
  simp only [uv,az,ip] at h;cases j with
  | zero=>simp only [lR,av] at b;subst b;exact h.1
  | succ j=>have:=tA l (i+1) h.2 j p (by simpa using b);rwa [show i+1+j=i+(j+1) by omega] at this
theorem nJ {ops:Array Oper} {masks:List Nat}:∀(l a:List Oper),us ops masks a.length a l=true->∀(i j:Nat) (x y:Oper),i<a.length+j->(a++l)[i]?=some x->l[j]?=some y->
  (getN masks (a.length+j)).testBit i=true\/x.apart ops y=true
 | [],_,_,_,_,_,_,_,_,h=>by simp at h
 | o::l,a,h,i,j,x,y,hi,hx,hy=>by
  simp only [us,az] at h;cases j with
  | zero=>
   simp only [lR,av] at hy;subst hy;have:=tA a 0 h.1 i x (by rw [oe (by simpa using hi)] at hx;exact hx);simpa using this
  | succ j=>
   have b:=h.2;rw [show a.length+1=(a++[o]).length by simp] at b;have:=nJ l (a++[o]) b i j x y (by simp;omega) (by simpa using hx) (by simpa using hy);rwa [show (a++[o]).length+j=a.length+(j+1) by simp;omega] at this
theorem rk {masks:List Nat}:∀{tr:List TE},qo masks tr=true->∀x∈tr,∀y∈tr,x.i<y.i->yo masks x y=true\/yo masks y x=true
 | [],_,x,hx,_,_,_=>by cases hx
 | z::l,h,x,hx,y,hy,c=>by
  simp only [qo,az,bW] at h;rcases cN.1 hx with b | b
  ·subst b;rcases cN.1 hy with a | a
   ·subst a;omega
   ·exact .inl (h.1 y a)
  ·rcases cN.1 hy with a | a
   ·subst a;exact .inr (h.1 x b)
   ·exact rk h.2 x b y a c
theorem yZ {x y:TE} (h:U4 x y=false):(∀b∈x.ws,b∉y.rd/\b∉y.ws)/\∀b∈x.rd,b∉y.ws:=by
 simp only [U4,oV,ta,ip,not_or,List.contains_iff_mem] at h;exact ⟨λb a=>h.1 b a,λb a=>h.2 b a⟩
theorem ET {masks:List Nat} {x y:TE} (h:yo masks x y=true\/yo masks y x=true) (e:x.i<y.i):
  (getN masks y.i).testBit x.i=true\/((∀b∈x.ws,b∉y.rd/\b∉y.ws)/\∀b∈x.rd,b∉y.ws):=by
 have f:Nat.blt x.i y.i=true:=cP e;have k:Nat.blt y.i x.i=false:=by
  cases j:Nat.blt y.i x.i with
  | false=>rfl
  | true=>have:y.i<x.i:=aL j;omega
 rcases h with h | h
 ·simp only [yo,f,ah,ip,jW] at h;exact h.imp id yZ
 ·simp only [yo,k,af,ip,jW] at h;refine h.imp id λh=>?_;obtain ⟨a,b⟩:=yZ h;exact ⟨λc hc=>⟨λg=>b c g hc,λd=>(a c d).2 hc⟩,λc hc d=>(a c d).1 hc⟩
theorem vA:∀(ops:List Oper) {T:List (Nat×Option V)} (t:Nat) (v:V),look (Kw ops T) t=some (some v)->(∀o∈ops,o.dst≠some t)/\look T t=some (some v)
 | [],T,t,v,h=>⟨by simp,h⟩
 | o::l,T,t,v,h=>by
  simp only [Kw] at h;split at h
  ·rename_i d f;rw [aV] at h;split at h
   ·cases h
   ·rename_i a;obtain ⟨c,b⟩:=vA l t v h;refine ⟨λx hx=>?_,b⟩;rcases cN.1 hx with rfl | hx
    ·rw [f];intro e;cases e;exact a rfl
    ·exact c x hx
  ·rename_i f;obtain ⟨c,b⟩:=vA l t v h;refine ⟨λx hx=>?_,b⟩;rcases cN.1 hx with rfl | hx
   ·rw [f];intro e;cases e
   ·exact c x hx
theorem J9 {α:Type} {E:List Ent} (hE:∀x∈E,fM P x) {n:Nat} {ops:List Oper} {s:St} {k:Ex->St->Option α} {z:α} (h:Gn P E n ops s k=some z) (id:Nat):
  SemC P n (.region id ops.toArray true) s λex s'=>k ex s'=some z:=by
 intro ι0 w0 ι a w hI;unfold Gn at h;split at h
 case h_2=>cases h
 rename_i hok;simp only [az,IJ] at hok;obtain ⟨⟨hb1,hb2,_⟩,R⟩:=hok;have g:=qS ops ops [] (by simp) (λj i u=>by simp [getN] at u);have hI1:Inv n ι0 w0 ι { s with nb:=s.nb+8*ops.length } a { w with drawn:=w.drawn+1 }:=by
  have d:=hI.drawn (w.drawn+1);exact ⟨d.size,d.defers,d.tmps,⟨d.mem.inj,λb r u=>by have:=d.mem.low b r u;simp only;omega,d.mem.dom,d.mem.blk⟩,d.ext,d.new,d.fr,d.low,d.fz,d.gl⟩
 have L:∀i,Dn (Array.replicate ops.toArray.size false) i=false:=by
  intro i;unfold Dn;simp only [rq,WP];split<;>rfl
 have hno:∀(l:List Rec) (i:Nat) (D:Nat->Bool) (s:St),(∀j,D j=false)->appD i l D s=s:=by
  intro l
  induction l with
  | nil=>intros;rfl
  | cons r l ih=>intro i D s hD;simp only [appD,hD i,bz,aE];exact ih _ D s hD
 have C:∀(trf:List TE) (x y:Rec) (i j:Nat),qo (lG ops []) (trf.filter λx=>!(x.rd.isEmpty&&x.ws.isEmpty))=true->i<j->((⟨0+i,x.rd,keys x.wr⟩:TE)∈trf\/(x.rd=[]/\x.wr=[]))->((⟨0+j,y.rd,keys y.wr⟩:TE)∈trf\/(y.rd=[]/\y.wr=[]))->
   Must ops i j\/((∀b∈keys x.wr,b∉y.rd/\b∉keys y.wr)/\∀b∈x.rd,b∉keys y.wr):=by
  intro trf x y i j K B hx hy;rcases hx with hxm | ⟨hx1,hx2⟩
  ·rcases hy with hym | ⟨hy1,hy2⟩
   ·simp only [dc] at hxm hym;by_cases X:(x.rd=[]/\x.wr=[])
    ·exact .inr (by simp [X.1,X.2,keys])
    ·by_cases Y:(y.rd=[]/\y.wr=[])
     ·exact .inr (by simp [Y.1,Y.2,keys])
     ·have m1:(⟨i,x.rd,keys x.wr⟩:TE)∈trf.filter λx=>!(x.rd.isEmpty&&x.ws.isEmpty):=by
       refine mg.2 ⟨hxm,?_⟩;simp only [keys,jW,Fg,BS];rcases Hq (x.rd=[]) with h | h
       ·exact .inr (by simpa using λhw=>X ⟨h,hw⟩)
       ·exact .inl h
      have m2:(⟨j,y.rd,keys y.wr⟩:TE)∈trf.filter λx=>!(x.rd.isEmpty&&x.ws.isEmpty):=by
       refine mg.2 ⟨hym,?_⟩;simp only [keys,jW,Fg,BS];rcases Hq (y.rd=[]) with h | h
       ·exact .inr (by simpa using λhw=>Y ⟨h,hw⟩)
       ·exact .inl h
      have:=ET (rk K _ m1 _ m2 B) B;exact this.imp (g j i) λh=>h
   ·exact .inr (by simp [hy1,hy2,keys])
  ·exact .inr (by simp [hx1,hx2,keys])
 rcases Bl hE ops 0 _ [] (by simp) h with ⟨recs,O,trf,g1,S,Q,_,g5,g6⟩ | ⟨p,po,recs,O,sp,trf,v,wr,rp,g1,g0,gr,gd,gw,rfl,S,Q,_,g7,g5,g6⟩
 ·split at S
  case h_2=>cases S
  rename_i K;have F:DrawFacts P n s.nb ops recs { s with nb:=s.nb+8*ops.length } (λ_=>True):=by
   refine ⟨g1,rfl,λj o r N Z=>?_,λj o e N he u=>?_,λi j x y B hx hy=>?_,λi j x y B hx hy=>?_⟩
   ·obtain ⟨p1,p2⟩:=g6 j o r N Z;simp only [dc] at p2;have e:=rl recs 0 j { s with nb:=s.nb+8*ops.length };simp only [dc] at e;exact ⟨λt V=>p1▸V,λ_=>p2.eqv e⟩
   ·have:=ki ops 0 hb1 j o e N he u;omega
   ·have:=nJ (masks:=lG ops []) ops [] hb2 i j x y (by simpa using B) (by simpa using hx) hy;simp only [bh,dc] at this;exact this.imp (g j i) λh=>h
   ·exact C trf x y i j K B (g5 i x hx) (g5 j y hy)
  refine wp_region_any R (Ew (kk:=0) F (λ_ _ _=>trivial) (λG a' w' f=>⟨.normal,O,G,rfl,f.eqv Q.symm,S⟩) _ _ ι a _ (by simp) (λj hj=>by omega) (λj o e _ M=>by rw [L j] at M;cases M) (by rw [hno recs 0 _ _ L];exact hI1) (λi _ _ b u _=>?_) ?_)
  ·exact hI.fresh b (by omega)
  ·have:=Cf (λi=>!Dn (Array.replicate ops.toArray.size false) i) (List.range ops.length);simpa using this
 ·split at S
  case h_2=>cases S
  rename_i hpk;simp only [az,WL] at hpk;obtain ⟨hw,K⟩:=hpk;simp only [dc] at S g7 hw;have B:p<ops.length:=by
   rcases aH p ops.length with h' | h'
   ·exact h'
   ·rw [ga h'] at g0;cases g0
  have A:∀i r,recs[i]?=some r->i≠p->(i<p/\Must ops i p)\/r.wr=[]:=by
   intro i r Z I;rcases g5 i r Z I with hx | hx
   ·have:=(bW.1 hw) _ hx;simp only [dc,ip,az] at this;rcases this with h | h
    ·right;simpa [keys] using h
    ·exact .inl ⟨aL h.1,g p i h.2⟩
   ·exact .inr hx.2
  have g5':∀(j:Nat) (r:Rec),recs[j]?=some r->j≠p->(⟨0+j,r.rd,keys r.wr⟩:TE)∈trf\/(r.rd=[]/\r.wr=[]):=g5;have F:DrawFacts P n s.nb ops recs { s with nb:=s.nb+8*ops.length } (λj=>j<p\/(p<j/\(getN (lG ops []) (0+j)).testBit (0+p)=false)):=by
   refine ⟨g1,rfl,λj o r N Z=>?_,λj o e N he u=>?_,λi j x y W hx hy=>?_,λi j x y W hx hy=>?_⟩
   ·obtain ⟨p1,p2⟩:=g6 j o r N Z;have e:=rl recs 0 j { s with nb:=s.nb+8*ops.length };simp only [dc] at e p2 ⊢;exact ⟨λt V=>p1▸V,λhc=>(p2 hc).eqv e⟩
   ·have:=ki ops 0 hb1 j o e N he u;omega
   ·have:=nJ (masks:=lG ops []) ops [] hb2 i j x y (by simpa using W) (by simpa using hx) hy;simp only [bh,dc] at this;exact this.imp (g j i) λh=>h
   ·by_cases I:i=p
    ·
     subst I;rw [gr] at hx;cases hx;rcases A j y hy (by omega) with ⟨h,_⟩ | h
     ·omega
     ·exact .inr (by simp [gw,h,keys])
    ·by_cases J:j=p
     ·subst J;rw [gr] at hy;cases hy;rcases A i x hx I with ⟨_,h⟩ | h
      ·exact .inl h
      ·exact .inr (by simp [gw,h,keys])
     ·exact C trf x y i j K W (g5 i x hx I) (g5 j y hy J)
  have c:Eqv ((recs.take p).foldl St.put { s with nb:=s.nb+8*ops.length }) (appD 0 recs (λm=>decide (m<p)) { s with nb:=s.nb+8*ops.length }):=by
   have e:=rl recs 0 p { s with nb:=s.nb+8*ops.length };simpa using e
  have U:∀j,j<ops.length->j≠p->(j<p\/(p<j/\(getN (lG ops []) (0+j)).testBit (0+p)=false))\/Must ops p j:=by
   intro j _ hne;cases u:(getN (lG ops []) (0+j)).testBit (0+p) with
   | false=>exact .inl ((Nat.lt_or_gt_of_ne hne).imp (λh=>h) λh=>⟨h,rfl⟩)
   | true=>simp only [dc] at u;exact .inr (g j p u)
  refine wp_region_any R (Rb F g0 gr (g7.eqv c) U (λD hD hd hn G x a' w' hv f=>⟨.pan v,_,G,⟨x,rfl,hv⟩,?inv,S⟩) _ _ ι a _ (by simp) (λj o e _ M=>by rw [L j] at M;cases M) (L p) (by rw [hno _ 0 _ _ L];exact hI1) (λi _ _ b u _=>?fresh) ?len)
  case inv=>
   have hH:∀b,look O.H b=look (appD 0 recs D { s with nb:=s.nb+8*ops.length }).H b:=by
    intro b;rw [Q.H,c.H,xq,xq];refine qy _ 0 _ _ b _ λj r hj u=>?_;simp only [dc];by_cases J:j=p
    ·subst J;rw [gr] at hj;cases hj;rw [gw] at u;simp [keys] at u
    ·rcases A j r hj J with ⟨d,hm⟩ | hm
     ·rw [hm.in hD g0 hd (by omega)];simp [d]
     ·rw [hm] at u;simp [keys] at u
   have hT:∀t v,look (Kw ops s.T) t=some (some v)->look (appD 0 recs D { s with nb:=s.nb+8*ops.length }).T t=some (some v):=by
    intro t v V;obtain ⟨d,h2⟩:=vA ops t v V;rw [Ad,AD _ 0 D t _ λj r hj Z=>?_]
    ·exact h2
    ·exfalso;obtain ⟨o,N⟩:=zr F hj;exact d o (fc N) ((F.loc j o r N hj).1 t Z)
   refine ⟨f.size,f.defers,λt v V=>f.tmps t v (hT t v V),⟨f.mem.inj,λb r u=>?_,f.mem.dom,λb blk hl hdd=>f.mem.blk b blk ?_ hdd⟩,?_,f.new,?_,λb r u=>?_,?_,?_⟩
   ·have:=f.mem.low b r u;have e:=Q.nb.trans c.nb;rw [mf] at e;show b<O.nb;rw [e];exact this
   ·show look (wr++(appD 0 recs D { s with nb:=s.nb+8*ops.length }).H) b=_;rw [qH,<-hH b,<-qH];exact hl
   ·have e:=Q.rb.trans c.rb;rw [xJ] at e;have d:=f.ext;show ∀b q,ι0 b=some q->G b=some q\/O.rb<=b;rw [e];simp only [St.app,xJ] at d;exact d
   ·have e:=Q.ro.trans c.ro;rw [jr] at e;have d:=f.fr;show Fr (roI ι0 O.ro) w0.w w';rw [e];simp only [St.app,jr] at d;exact d
   ·have e:=Q.lo.trans c.lo;rw [ya] at e;have d:=f.low b r u;show b<O.lo;rw [e];simp only [St.app,ya] at d;exact d
   ·have e:=Q.ro.trans c.ro;rw [jr] at e;have d:=f.fz;show ∀b q,G b=some (some q)->q.fz=true->b<O.ro;rw [e];simp only [St.app,jr] at d;exact d
   ·have e:=Q.ro.trans c.ro;rw [jr] at e;have d:=f.gl;show GL (roI ι0 O.ro) w0.w;rw [e];simp only [St.app,jr] at d;exact d
  case fresh=>exact hI.fresh b (by omega)
  case len=>
   have:=Cf (λi=>!Dn (Array.replicate ops.toArray.size false) i) (List.range ops.length);simpa using this
end Go.Abs
