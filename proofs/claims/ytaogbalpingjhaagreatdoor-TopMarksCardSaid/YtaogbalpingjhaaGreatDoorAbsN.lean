
/- A region that draws its order: where what is unordered does not meet, every order comes to what the order of the text comes to.
   Conditions: none; generic over the program. -/
import Derived.Test.YtaogbalpingjhaaGreatDoorAbsM
set_option linter.unusedSimpArgs false
set_option linter.unusedVariables false
namespace Go.Abs
variable {P:Program}
structure Rec where
 dst:Option Nat
 val:Option V
 wr:List (Nat×Blk)
 rd:List Nat
def St.put (s:St) (r:Rec):St:=s.app r.dst r.val r.wr s.nb
def keys (wr:List (Nat×Blk)):List Nat:=wr.map (·.1)
theorem m6 {α:Type} (l m:List (Nat×α)) (n:Nat):look (l++m) n=(look l n).or (look m n):=by
 induction l with
 | nil=>rfl
 | cons x l ih=>
  obtain ⟨k,v⟩:=x;rw [dL,aL,aL];split
  ·rfl
  ·exact ih
theorem om {α:Type} {l:List (Nat×α)} {n:Nat} (h:n∉l.map (·.1)):look l n=none:=by
 induction l with
 | nil=>rfl
 | cons x l ih=>
  obtain ⟨k,v⟩:=x;simp only [fg,cq,not_or] at h;rw [aL,ab (λe=>h.1 e.symm)];exact ih h.2
theorem oP {α:Type} {l:List (Nat×α)} {n:Nat} (h:n∈l.map (·.1)):∃v,look l n=some v:=by
 induction l with
 | nil=>simp at h
 | cons x l ih=>
  obtain ⟨k,v⟩:=x;rw [aL];split
  ·exact ⟨v,rfl⟩
  ·rename_i a;simp only [fg,cq] at h;exact ih (h.resolve_left λe=>a e.symm)
theorem LZ (s:St) (r:Rec) (t:Nat):look (s.put r).T t=if r.dst=some t then some r.val else look s.T t:=by
 unfold St.put St.app;cases a:r.dst with
 | none=>simp
 | some d=>
  simp only [aL];by_cases h:d=t
  ·subst h;simp
  ·simp [h]
theorem Kx (s:St) (r:Rec) (b:Nat):look (s.put r).H b=(look r.wr b).or (look s.H b):=m6 _ _ _
theorem Qf (s:St) (r:Rec):(s.put r).nb=s.nb:=rfl
structure Eqv (s s':St):Prop where
 T:∀t,look s.T t=look s'.T t
 H:∀b,look s.H b=look s'.H b
 nb:s.nb=s'.nb
 lo:s.lo=s'.lo
 ro:s.ro=s'.ro
 rb:s.rb=s'.rb
theorem Eqv.refl (s:St):Eqv s s:=⟨λ_=>rfl,λ_=>rfl,rfl,rfl,rfl,rfl⟩
theorem Eqv.symm {s s':St} (h:Eqv s s'):Eqv s' s:=⟨λt=>(h.T t).symm,λb=>(h.H b).symm,h.nb.symm,h.lo.symm,h.ro.symm,h.rb.symm⟩
theorem Eqv.trans {a b c:St} (h:Eqv a b) (k:Eqv b c):Eqv a c:=⟨λt=>(h.T t).trans (k.T t),λt=>(h.H t).trans (k.H t),h.nb.trans k.nb,h.lo.trans k.lo,h.ro.trans k.ro,h.rb.trans k.rb⟩
theorem Eqv.put {s s':St} (h:Eqv s s') (r:Rec):Eqv (s.put r) (s'.put r):=
 ⟨λt=>by rw [LZ,LZ,h.T],λb=>by rw [Kx,Kx,h.H],h.nb,h.lo,h.ro,h.rb⟩
theorem Eqv.puts:∀(l:List Rec) {s s':St},Eqv s s'->Eqv (l.foldl St.put s) (l.foldl St.put s')
 | [],_,_,h=>h
 | r::l,_,_,h=>Eqv.puts l (h.put r)
theorem Inv.eqv {n:Nat} {ι0 ι:Inj} {w0:Base} {s s':St} {a:Act} {w:World} (h:Inv n ι0 w0 ι s a w) (e:Eqv s s'):Inv n ι0 w0 ι s' a w:=
 ⟨h.size,h.defers,λt v G=>h.tmps t v (by rw [e.T];exact G),⟨h.mem.inj,λb r C=>by rw [<-e.nb];exact h.mem.low b r C,h.mem.dom,λb blk E F=>h.mem.blk b blk (by rw [e.H];exact E) F⟩,by rw [<-e.rb];exact h.ext,h.new,by rw [<-e.ro];exact h.fr,λb r C=>by rw [<-e.lo];exact h.low b r C,by rw [<-e.ro];exact h.fz,by rw [<-e.ro];exact h.gl⟩
def appD:Nat->List Rec->(Nat->Bool)->St->St
 | _,[],_,s=>s
 | i,r::l,D,s=>appD (i+1) l D (if D i=true then s.put r else s)
def vk:Nat->List Rec->(Nat->Bool)->Nat->Option (Option V)->Option (Option V)
 | _,[],_,_,x=>x
 | i,r::l,D,t,x=>vk (i+1) l D t (if D i=true/\r.dst=some t then some r.val else x)
def ve:Nat->List Rec->(Nat->Bool)->Nat->Option Blk->Option Blk
 | _,[],_,_,x=>x
 | i,r::l,D,b,x=>ve (i+1) l D b (if D i=true then (look r.wr b).or x else x)
theorem xg:∀(l:List Rec) (i:Nat) (D:Nat->Bool) (s:St) (t:Nat),look (appD i l D s).T t=vk i l D t (look s.T t)
 | [],_,_,_,_=>rfl
 | r::l,i,D,s,t=>by
  simp only [appD,vk,xg l];congr 1;cases D i
  ·simp
  ·simp only [jD,aI];rw [LZ]
theorem uN:∀(l:List Rec) (i:Nat) (D:Nat->Bool) (s:St) (b:Nat),look (appD i l D s).H b=ve i l D b (look s.H b)
 | [],_,_,_,_=>rfl
 | r::l,i,D,s,b=>by
  simp only [appD,ve,uN l];congr 1;cases D i
  ·simp
  ·simp only [aI];rw [Kx]
theorem jT:∀(l:List Rec) (i:Nat) (D:Nat->Bool) (s:St),(appD i l D s).nb=s.nb
 | [],_,_,_=>rfl
 | r::l,i,D,s=>by
  simp only [appD,jT l];split<;>rfl
theorem gU:∀(l:List Rec) (i:Nat) (D:Nat->Bool) (s:St),(appD i l D s).ro=s.ro
 | [],_,_,_=>rfl
 | r::l,i,D,s=>by
  simp only [appD,gU l];split<;>rfl
theorem tA:∀(l:List Rec) (i:Nat) (D:Nat->Bool) (s:St),(appD i l D s).lo=s.lo
 | [],_,_,_=>rfl
 | r::l,i,D,s=>by
  simp only [appD,tA l];split<;>rfl
theorem uj:∀(l:List Rec) (i:Nat) (D:Nat->Bool) (s:St),(appD i l D s).rb=s.rb
 | [],_,_,_=>rfl
 | r::l,i,D,s=>by
  simp only [appD,uj l];split<;>rfl
theorem qd:∀(l:List Rec) (i:Nat) (D a:Nat->Bool) (t:Nat) (x:Option (Option V)),(∀j r,l[j]?=some r->r.dst=some t->D (i+j)=a (i+j))->vk i l D t x=vk i l a t x
 | [],_,_,_,_,_,_=>rfl
 | r::l,i,D,a,t,x,h=>by
  simp only [vk];have b:=h 0 r (by simp);simp only [cP] at b;rw [qd l (i+1) D a t _ λj e d f=>by have:=h (j+1) e (by simpa using d) f;rwa [show i+(j+1)=i+1+j by omega] at this];congr 1;by_cases c:r.dst=some t
  ·rw [b c]
  ·simp [c]
theorem vZ (l:List Rec) (i:Nat) (D:Nat->Bool) (t:Nat) (x:Option (Option V)) (h:∀j r,l[j]?=some r->r.dst=some t->D (i+j)=false):vk i l D t x=x:=by
 induction l generalizing i x with
 | nil=>rfl
 | cons r l ih=>
  simp only [vk];have a:=h 0 r (by simp);simp only [cP] at a;have:¬(D i=true/\r.dst=some t):=λ⟨b,e⟩=>by rw [a e] at b;cases b
  rw [ab this];exact ih (i+1) x λj d c f=>by have:=h (j+1) d (by simpa using c) f;rwa [show i+(j+1)=i+1+j by omega] at this
theorem D9:∀(l:List Rec) (i j:Nat) (D:Nat->Bool) (t:Nat) (x:Option (Option V)) (r:Rec),l[j]?=some r->D (i+j)=true->r.dst=some t->
  (∀k b,j<k->l[k]?=some b->b.dst=some t->D (i+k)=false)->vk i l D t x=some r.val
 | [],_,_,_,_,_,_,h,_,_,_=>by simp at h
 | r0::l,i,0,D,t,x,r,h,c,e,a=>by
  simp only [kn,ah] at h;subst h;simp only [cP] at c;simp only [vk];rw [ae ⟨c,e⟩];exact vZ l (i+1) D t _ λk b f d=>by have:=a (k+1) b (by omega) (by simpa using f) d;rwa [show i+(k+1)=i+1+k by omega] at this
 | r0::l,i,j+1,D,t,x,r,h,c,e,a=>by
  simp only [vk]
  exact D9 l (i+1) j D t _ r (by simpa using h) (by rwa [show i+1+j=i+(j+1) by omega]) e λk b f g d=>by
   have:=a (k+1) b (by omega) (by simpa using g) d;rwa [show i+(k+1)=i+1+k by omega] at this
theorem ng:∀(l:List Rec) (i:Nat) (D a:Nat->Bool) (b:Nat) (x:Option Blk),(∀j r,l[j]?=some r->b∈keys r.wr->D (i+j)=a (i+j))->ve i l D b x=ve i l a b x
 | [],_,_,_,_,_,_=>rfl
 | r::l,i,D,a,b,x,h=>by
  simp only [ve];have c:=h 0 r (by simp);simp only [cP] at c;rw [ng l (i+1) D a b _ λj f e g=>by have:=h (j+1) f (by simpa using e) g;rwa [show i+(j+1)=i+1+j by omega] at this];congr 1;by_cases d:b∈keys r.wr
  ·rw [c d]
  ·simp [om d]
theorem FL (l:List Rec) (i:Nat) (D:Nat->Bool) (b:Nat) (x:Option Blk) (h:∀j r,l[j]?=some r->b∈keys r.wr->D (i+j)=false):ve i l D b x=x:=by
 induction l generalizing i x with
 | nil=>rfl
 | cons r l ih=>
  simp only [ve];have a:=h 0 r (by simp);simp only [cP] at a;have:(if D i=true then (look r.wr b).or x else x)=x:=by
   by_cases c:b∈keys r.wr
   ·rw [a c];simp
   ·rw [om c];simp
  rw [this];exact ih (i+1) x λj e d f=>by have:=h (j+1) e (by simpa using d) f;rwa [show i+(j+1)=i+1+j by omega] at this
theorem ES:∀(l:List Rec) (i j:Nat) (D:Nat->Bool) (b:Nat) (x:Option Blk) (r:Rec),l[j]?=some r->D (i+j)=true->b∈keys r.wr->
  (∀k c,j<k->l[k]?=some c->b∈keys c.wr->D (i+k)=false)->ve i l D b x=look r.wr b
 | [],_,_,_,_,_,_,h,_,_,_=>by simp at h
 | r0::l,i,0,D,b,x,r,h,d,f,a=>by
  simp only [kn,ah] at h;subst h;simp only [cP] at d;simp only [ve];obtain ⟨v,m⟩:=oP f;rw [ae d,m];exact FL l (i+1) D b _ λk c g e=>by have:=a (k+1) c (by omega) (by simpa using g) e;rwa [show i+(k+1)=i+1+k by omega] at this
 | r0::l,i,j+1,D,b,x,r,h,d,f,a=>by
  simp only [ve]
  exact ES l (i+1) j D b _ r (by simpa using h) (by rwa [show i+1+j=i+(j+1) by omega]) f λk c g n e=>by
   have:=a (k+1) c (by omega) (by simpa using n) e;rwa [show i+(k+1)=i+1+k by omega] at this
theorem ou:∀(l:List Rec) (i j:Nat) (s:St),Eqv ((l.take j).foldl St.put s) (appD i l (λm=>decide (m<i+j)) s)
 | [],i,j,s=>by simp [appD];exact Eqv.refl s
 | r::l,i,0,s=>by
  have:∀(l:List Rec) (i a:Nat) (s:St),i<=a->appD a l (λm=>decide (m<i)) s=s:=by
   intro l
   induction l with
   | nil=>intros;rfl
   | cons r l ih=>intro i a s h;simp only [appD,show ¬a<i by omega,lO,bE,aC];exact ih i (a+1) s (by omega)
  simp only [kG,Ea,cP];rw [this (r::l) i i s (aM _)];exact Eqv.refl s
 | r::l,i,j+1,s=>by
  simp only [kE,sq,appD,show i<i+(j+1) by omega,mj,aI];have:=ou l (i+1) j (s.put r);rwa [show (λm=>decide (m<i+1+j))=λm=>decide (m<i+(j+1)) by funext m;simp only [uc];omega] at this
theorem xB:∀(l:List Rec) (i:Nat) (D:Nat->Bool) (s:St),(∀j,j<l.length->D (i+j)=true)->appD i l D s=l.foldl St.put s
 | [],_,_,_,_=>rfl
 | r::l,i,D,s,h=>by
  have a:=h 0 (by simp);simp only [cP] at a;simp only [appD,a,aI,sq];exact xB l (i+1) D _ λj b=>by have:=h (j+1) (by simpa using b);rwa [show i+(j+1)=i+1+j by omega] at this
def sd (P:Program) (n nb0:Nat) (ops:List Oper) (i:Nat) (o:Oper) (r:Rec) (base:St):Prop:=
 ∀s':St,(∀t∈o.looksAt ops.toArray,look s'.T t=look base.T t)->(∀b∈r.rd,look s'.H b=look base.H b)->s'.nb=base.nb->s'.ro=base.ro->
  ∀(ι0:Inj) (w0:Base) (ι:Inj) (a:Act) (w:World),Inv n ι0 w0 ι s' a w->(∀b,nb0+8*i<=b->b<nb0+8*i+8->ι b=none)->∀(K:Act->World->Prop) (Q:Exit->Act->World->Prop),
   (∀c d w',(∀b,(b<nb0+8*i\/nb0+8*i+8<=b)->c b=ι b)->Inv n ι0 w0 c (s'.put r) d w'->K d w')->
   if Region.wanted o (yielded ops.toArray a.tmps) then o.wp P a w K Q else K (a.put o.dst undef) w
def wX (P:Program) (n nb0:Nat) (ops:List Oper) (i:Nat) (o:Oper) (v:V) (wr:List (Nat×Blk)) (rd:List Nat) (base:St):Prop:=
 ∀s':St,(∀t∈o.looksAt ops.toArray,look s'.T t=look base.T t)->(∀b∈rd,look s'.H b=look base.H b)->s'.nb=base.nb->s'.ro=base.ro->
  ∀(ι0:Inj) (w0:Base) (ι:Inj) (a:Act) (w:World),Inv n ι0 w0 ι s' a w->(∀b,nb0+8*i<=b->b<nb0+8*i+8->ι b=none)->∀(K:Act->World->Prop) (Q:Exit->Act->World->Prop),
   (∀c x w',VR c v x->Inv n ι0 w0 c (s'.app none none wr s'.nb) a w'->Q (.panic [{ v:=x,recovered:=false }]) a w')->
   Region.wanted o (yielded ops.toArray a.tmps)=true/\o.wp P a w K Q
theorem wX.eqv {n nb0:Nat} {ops:List Oper} {i:Nat} {o:Oper} {v:V} {wr:List (Nat×Blk)} {rd:List Nat} {base C:St} (h:wX P n nb0 ops i o v wr rd base) (e:Eqv base C):wX P n nb0 ops i o v wr rd C:=
 λs' O Q J G=>h s' (λt E=>by rw [O t E,e.T]) (λb F=>by rw [Q b F,e.H]) (by rw [J,e.nb]) (by rw [G,e.ro])
theorem sd.eqv {n nb0:Nat} {ops:List Oper} {i:Nat} {o:Oper} {r:Rec} {base C:St} (h:sd P n nb0 ops i o r base) (e:Eqv base C):sd P n nb0 ops i o r C:=
 λs' O Q J G=>h s' (λt E=>by rw [O t E,e.T]) (λb F=>by rw [Q b F,e.H]) (by rw [J,e.nb]) (by rw [G,e.ro])
theorem wY {α:Type} {ops:List Oper} {o:Oper} {s:St} {k:Bool->St->Option α} {z:α} (h:uf ops o s k=some z):
  ∃c r,k c r=some z/\Eqv r s/\∀s':St,(∀t∈o.looksAt ops.toArray,look s'.T t=look s.T t)->∀(n:Nat) (ι0 ι:Inj) (w0:Base) (a:Act) (w:World),Inv n ι0 w0 ι s' a w->
   Region.wanted o (yielded ops.toArray a.tmps)=c:=by
 unfold uf at h;split at h
 ·rename_i l;exact ⟨true,s,h,Eqv.refl s,λ_ _ _ _ _ _ _ _ _=>by simp [Region.wanted,l]⟩
 ·rename_i j c l;split at h
  case h_2=>cases h
  rename_i d i;have f:d∈o.looksAt ops.toArray:=by
   unfold Oper.looksAt;unfold gtmp at i;split at i
   ·rename_i v q;simp [l,q,i]
   ·cases i
  have again:∀x,look s.T d=some (some (.b x))->Eqv { s with T:=(d,some (V.b x))::s.T } s:=by
   intro x hx;refine ⟨λt=>?_,λ_=>rfl,rfl,rfl,rfl,rfl⟩;show look ((d,some (V.b x))::s.T) t=look s.T t;rw [aL];split
   ·rename_i e;subst e;exact hx.symm
   ·rfl
  split at h
  ·rename_i x hx;cases x
   ·refine ⟨!c,_,h,again _ hx,λs' hs n ι0 ι w0 a w p=>?_⟩;obtain ⟨y,m,g⟩:=p.tmps d _ (by rw [hs d f];exact hx);simp only [VR] at g;subst g;have hy:=oY i a.tmps;rw [m] at hy;cases c<;>simp [Region.wanted,l,hy]
   ·refine ⟨c,_,h,again _ hx,λs' hs n ι0 ι w0 a w p=>?_⟩;obtain ⟨y,m,g⟩:=p.tmps d _ (by rw [hs d f];exact hx);simp only [VR] at g;subst g;have hy:=oY i a.tmps;rw [m] at hy;cases c<;>simp [Region.wanted,l,hy]
  ·rename_i hx;refine ⟨false,s,h,Eqv.refl s,λs' hs n ι0 ι w0 a w p=>?_⟩;obtain ⟨y,m,g⟩:=p.tmps d _ (by rw [hs d f];exact hx);simp only [VR] at g;obtain ⟨u,rfl,_⟩:=g;have hy:=oY i a.tmps;rw [m] at hy;simp [Region.wanted,l,hy]
  ·cases h
theorem tV {ops:Array Oper} {o:Oper} {s s':St} (h:∀t∈o.looksAt ops,look s'.T t=look s.T t):∀x∈o.op.operands.toList,opd s'.T x=opd s.T x:=by
 intro x hx;cases x with
 | tmp t=>
  have:=h t (by
   unfold Oper.looksAt;simp only [kF,List.mem_filterMap];exact .inl ⟨.tmp t,hx,rfl⟩)
  simp only [opd,this]
 | _=>rfl
theorem Jo {α:Type} {E:List Ent} (W:∀x∈E,dT P x) {n nb0:Nat} {ops:List Oper} {masks:List Nat} {p:Nat} {k:List TE->Option α} {z:α}:∀(l:List Oper) (i:Nat) (s:St) (tr:List TE),
  nb0+8*(i+l.length)<=s.nb->runB P E n nb0 ops masks p i l s tr k=some z->
  ∃(recs:List Rec) (trf:List TE),recs.length=l.length/\k trf=some z/\(∀x∈tr,x∈trf)/\
   (∀j r,recs[j]?=some r->(⟨i+j,r.rd,keys r.wr⟩:TE)∈trf\/(r.rd=[]/\r.wr=[]))/\
   ∀(j:Nat) (o:Oper) (r:Rec),l[j]?=some o->recs[j]?=some r->r.dst=o.dst/\((getN masks (i+j)).testBit p=false->sd P n nb0 ops (i+j) o r ((recs.take j).foldl St.put s))
 | [],i,s,tr,y,h=>⟨[],tr,rfl,h,λ_ h=>h,λj r h=>by simp at h,λj o r h=>by simp at h⟩
 | o::l,i,s,tr,y,h=>by
  simp only [aG] at y;simp only [runB] at h;have more:∀(e:Rec) (c:List TE) (B:St),e.dst=o.dst->((getN masks i).testBit p=false->sd P n nb0 ops i o e s)->Eqv B (s.put e)->s.nb<=B.nb->(∀x∈tr,x∈c)->((⟨i,e.rd,keys e.wr⟩:TE)∈c\/(e.rd=[]/\e.wr=[]))->
    runB P E n nb0 ops masks p (i+1) l B c k=some z->∃(recs:List Rec) (trf:List TE),recs.length=(o::l).length/\k trf=some z/\(∀x∈tr,x∈trf)/\
   (∀j r,recs[j]?=some r->(⟨i+j,r.rd,keys r.wr⟩:TE)∈trf\/(r.rd=[]/\r.wr=[]))/\
   ∀(j:Nat) (F:Oper) (r:Rec),(o::l)[j]?=some F->recs[j]?=some r->r.dst=F.dst/\((getN masks (i+j)).testBit p=false->sd P n nb0 ops (i+j) F r ((recs.take j).foldl St.put s)):=by
   intro e c B M hl e2 hnb2 N O h;obtain ⟨recs,trf,g1,g2,V,g5,g6⟩:=Jo W l (i+1) B c (by omega) h;refine ⟨e::recs,trf,by simp [g1],g2,λx hx=>V x (N x hx),λj r m=>?_,λj F r S m=>?_⟩
   ·cases j with
    | zero=>simp only [kn,ah] at m;subst m;exact O.imp (V _) id
    | succ j=>have:=g5 j r (by simpa using m);rwa [show i+1+j=i+(j+1) by omega] at this
   ·cases j with
    | zero=>
     simp only [kn,ah] at S m;subst S m;exact ⟨M,hl⟩
    | succ j=>
     obtain ⟨p1,Z⟩:=g6 j F r (by simpa using S) (by simpa using m);rw [show i+1+j=i+(j+1) by omega] at Z;exact ⟨p1,λu=>(Z u).eqv (by simpa using Eqv.puts (recs.take j) e2)⟩
  split at h
  ·rename_i C;exact more ⟨o.dst,none,[],[]⟩ tr (s.app o.dst none [] s.nb) rfl (λu=>by rw [C] at u;cases u) (Eqv.refl _) (aM _) (λ_ h=>h) (.inr ⟨rfl,rfl⟩) h
  obtain ⟨D,A,h,q,X⟩:=wY h;have d:A.nb=s.nb:=q.nb;cases D
  ·simp only at h;split at h
   case h_2=>cases h
   rename_i M;refine more ⟨o.dst,some (.tp []),[],[]⟩ tr (A.app o.dst (some (.tp [])) [] A.nb) rfl (λ_ s' J Y q3 q4 ι0 w0 ι a w I G K Q U=>?_) (q.put ⟨o.dst,some (.tp []),[],[]⟩) (tQ d.symm) (λ_ h=>h) (.inr ⟨rfl,rfl⟩) h;rw [X s' J n ι0 ι w0 a w I];simp only [bE,aC];exact U ι _ _ (λ_ _=>rfl) (I.skip M)
  ·simp only at h;rcases zP W (by omega) h with ⟨val,wr,rd,g,R,f⟩ | ⟨v,wr,rd,R,f⟩
   ·refine more ⟨o.dst,val,wr,rd⟩ (⟨i,rd,keys wr⟩::tr) (A.app o.dst val wr A.nb) rfl (λ_ s' J Y q3 q4 ι0 w0 ι a w I G K Q U=>?_) (q.put ⟨o.dst,val,wr,rd⟩) (tQ d.symm) (λx hx=>eC _ hx) (.inl (by simp [keys])) R;rw [X s' J n ι0 ι w0 a w I];simp only [aI];refine f s' (tV λt ht=>by rw [J t ht,q.T]) (λb u=>by rw [Y b u,q.H]) (by rw [q3,d]) (by rw [q4,q.ro]) ι0 w0 ι a w I (by simpa using G) K Q λL a' w' z1 z2=>U L a' w' (by simpa using z1) z2
   ·cases R
theorem xT {α:Type} {E:List Ent} (hE:∀x∈E,dT P x) {n nb0:Nat} {ops:List Oper} {masks:List Nat} {k:St->List TE->Option α} {kp:Nat->V->St->List TE->Option α} {z:α}:∀(l:List Oper) (i:Nat) (s:St) (tr:List TE),
  nb0+8*(i+l.length)<=s.nb->runD P E n nb0 ops masks kp i l s tr k=some z->
  (∃(recs:List Rec) (d:St) (trf:List TE),recs.length=l.length/\k d trf=some z/\Eqv d (recs.foldl St.put s)/\(∀x∈tr,x∈trf)/\
   (∀j r,recs[j]?=some r->(⟨i+j,r.rd,keys r.wr⟩:TE)∈trf\/(r.rd=[]/\r.wr=[]))/\
   ∀(j:Nat) (o:Oper) (r:Rec),l[j]?=some o->recs[j]?=some r->r.dst=o.dst/\sd P n nb0 ops (i+j) o r ((recs.take j).foldl St.put s))\/
  (∃(p:Nat) (op:Oper) (recs:List Rec) (d:St) (M:St) (trf:List TE) (v:V) (wr:List (Nat×Blk)) (A:Rec),recs.length=l.length/\l[p]?=some op/\recs[p]?=some A/\A.dst=op.dst/\A.wr=[]/\M=d.app none none wr d.nb/\kp (i+p) v M trf=some z/\Eqv d ((recs.take p).foldl St.put s)/\(∀x∈tr,x∈trf)/\
   wX P n nb0 ops (i+p) op v wr A.rd ((recs.take p).foldl St.put s)/\
   (∀j r,recs[j]?=some r->j≠p->(⟨i+j,r.rd,keys r.wr⟩:TE)∈trf\/(r.rd=[]/\r.wr=[]))/\
   ∀(j:Nat) (o:Oper) (r:Rec),l[j]?=some o->recs[j]?=some r->r.dst=o.dst/\((j<p\/(p<j/\(getN masks (i+j)).testBit (i+p)=false))->sd P n nb0 ops (i+j) o r ((recs.take j).foldl St.put s)))
 | [],i,s,tr,O,h=>.inl ⟨[],s,tr,rfl,h,Eqv.refl s,λ_ h=>h,λj r h=>by simp at h,λj o r h=>by simp at h⟩
 | o::l,i,s,tr,O,h=>by
  simp only [aG] at O;simp only [runD] at h;obtain ⟨Z,D,h,q,hw⟩:=wY h;have e:D.nb=s.nb:=q.nb;have more:∀(B:Rec) (m:List TE) (R:St),B.dst=o.dst->sd P n nb0 ops i o B s->Eqv R (s.put B)->s.nb<=R.nb->(∀x∈tr,x∈m)->((⟨i,B.rd,keys B.wr⟩:TE)∈m\/(B.rd=[]/\B.wr=[]))->
    runD P E n nb0 ops masks kp (i+1) l R m k=some z->
    (∃(recs:List Rec) (d:St) (trf:List TE),recs.length=(o::l).length/\k d trf=some z/\Eqv d (recs.foldl St.put s)/\(∀x∈tr,x∈trf)/\
   (∀j r,recs[j]?=some r->(⟨i+j,r.rd,keys r.wr⟩:TE)∈trf\/(r.rd=[]/\r.wr=[]))/\
   ∀(j:Nat) (f:Oper) (r:Rec),(o::l)[j]?=some f->recs[j]?=some r->r.dst=f.dst/\sd P n nb0 ops (i+j) f r ((recs.take j).foldl St.put s))\/
    (∃(p:Nat) (op:Oper) (recs:List Rec) (d:St) (M:St) (trf:List TE) (v:V) (wr:List (Nat×Blk)) (A:Rec),recs.length=(o::l).length/\(o::l)[p]?=some op/\recs[p]?=some A/\A.dst=op.dst/\A.wr=[]/\M=d.app none none wr d.nb/\kp (i+p) v M trf=some z/\Eqv d ((recs.take p).foldl St.put s)/\(∀x∈tr,x∈trf)/\
   wX P n nb0 ops (i+p) op v wr A.rd ((recs.take p).foldl St.put s)/\
   (∀j r,recs[j]?=some r->j≠p->(⟨i+j,r.rd,keys r.wr⟩:TE)∈trf\/(r.rd=[]/\r.wr=[]))/\
   ∀(j:Nat) (f:Oper) (r:Rec),(o::l)[j]?=some f->recs[j]?=some r->r.dst=f.dst/\((j<p\/(p<j/\(getN masks (i+j)).testBit (i+p)=false))->sd P n nb0 ops (i+j) f r ((recs.take j).foldl St.put s))):=by
   intro B m R hd hl L hnb2 U hte h;rcases xT hE l (i+1) R m (by omega) h with ⟨recs,d,trf,S,N,g3,J,g5,X⟩ | ⟨p,op,recs,d,M,trf,v,wr,A,S,g0,gr,gd,gw,gs,N,g3,J,g7,g5,X⟩
   ·refine .inl ⟨B::recs,d,trf,by simp [S],N,g3.trans (Eqv.puts recs L),λx hx=>J x (U x hx),λj r c=>?_,λj f r y c=>?_⟩
    ·cases j with
     | zero=>simp only [kn,ah] at c;subst c;exact hte.imp (J _) id
     | succ j=>have:=g5 j r (by simpa using c);rwa [show i+1+j=i+(j+1) by omega] at this
    ·cases j with
     | zero=>
      simp only [kn,ah] at y c;subst y c;exact ⟨hd,hl⟩
     | succ j=>
      obtain ⟨W,G⟩:=X j f r (by simpa using y) (by simpa using c);rw [show i+1+j=i+(j+1) by omega] at G;exact ⟨W,G.eqv (by simpa using Eqv.puts (recs.take j) L)⟩
   ·rw [show i+1+p=i+(p+1) by omega] at N g7;refine .inr ⟨p+1,op,B::recs,d,M,trf,v,wr,A,by simp [S],by simpa using g0,by simpa using gr,gd,gw,gs,N,g3.trans (by simpa using Eqv.puts (recs.take p) L),λx hx=>J x (U x hx),g7.eqv (by simpa using Eqv.puts (recs.take p) L),λj r c Y=>?_,λj f r y c=>?_⟩
    ·cases j with
     | zero=>simp only [kn,ah] at c;subst c;exact hte.imp (J _) id
     | succ j=>have:=g5 j r (by simpa using c) (by omega);rwa [show i+1+j=i+(j+1) by omega] at this
    ·cases j with
     | zero=>
      simp only [kn,ah] at y c;subst y c;exact ⟨hd,λ_=>hl⟩
     | succ j=>
      obtain ⟨W,G⟩:=X j f r (by simpa using y) (by simpa using c);rw [show i+1+j=i+(j+1) by omega,show i+1+p=i+(p+1) by omega] at G;exact ⟨W,λhc=>(G (hc.imp (λh=>by omega) λh=>⟨by omega,h.2⟩)).eqv (by simpa using Eqv.puts (recs.take j) L)⟩
  cases Z
  ·simp only at h;split at h
   case h_2=>cases h
   rename_i hd;refine more ⟨o.dst,some (.tp []),[],[]⟩ tr (D.app o.dst (some (.tp [])) [] D.nb) rfl (λs' F q2 q3 q4 ι0 w0 ι a w I C K Q hK=>?_) (q.put ⟨o.dst,some (.tp []),[],[]⟩) (tQ e.symm) (λ_ h=>h) (.inr ⟨rfl,rfl⟩) h;rw [hw s' F n ι0 ι w0 a w I];simp only [bE,aC];exact hK ι _ _ (λ_ _=>rfl) (I.skip hd)
  ·simp only at h;rcases zP hE (by omega) h with ⟨val,wr,rd,g,hk,u⟩ | ⟨v,wr,rd,hk,u⟩
   ·refine more ⟨o.dst,val,wr,rd⟩ (⟨i,rd,keys wr⟩::tr) (D.app o.dst val wr D.nb) rfl (λs' F q2 q3 q4 ι0 w0 ι a w I C K Q hK=>?_) (q.put ⟨o.dst,val,wr,rd⟩) (tQ e.symm) (λx hx=>eC _ hx) (.inl (by simp [keys])) hk;rw [hw s' F n ι0 ι w0 a w I];simp only [aI];refine u s' (tV λt ht=>by rw [F t ht,q.T]) (λb hb=>by rw [q2 b hb,q.H]) (by rw [q3,e]) (by rw [q4,q.ro]) ι0 w0 ι a w I (by simpa using C) K Q λι' a' w' z1 z2=>hK ι' a' w' (by simpa using z1) z2
   ·obtain ⟨recs,trf,S,N,J,g5,X⟩:=Jo hE l (i+1) _ tr (by simp only [St.app];omega) hk;have L:Eqv (D.app o.dst none [] D.nb) (s.put ⟨o.dst,none,[],rd⟩):=q.put ⟨o.dst,none,[],rd⟩;refine .inr ⟨0,o,⟨o.dst,none,[],rd⟩::recs,D,_,trf,v,wr,⟨o.dst,none,[],rd⟩,by simp [S],rfl,rfl,rfl,rfl,rfl,N,q,J,λs' F q2 q3 q4 ι0 w0 ι a w I C K Q hK=>?_,λj r c Y=>?_,λj f r y c=>?_⟩
    ·simp only [kG,Ea] at F q2 q3 q4;exact ⟨hw s' F n ι0 ι w0 a w I,u s' (tV λt ht=>by rw [F t ht,q.T]) (λb hb=>by rw [q2 b hb,q.H]) (by rw [q3,e]) (by rw [q4,q.ro]) ι0 w0 ι a w I (by simpa using C) K Q hK⟩
    ·cases j with
     | zero=>exact absurd rfl Y
     | succ j=>have:=g5 j r (by simpa using c);rwa [show i+1+j=i+(j+1) by omega] at this
    ·cases j with
     | zero=>
      simp only [kn,ah] at y c;subst y c;exact ⟨rfl,λh=>by omega⟩
     | succ j=>
      obtain ⟨W,G⟩:=X j f r (by simpa using y) (by simpa using c);rw [show i+1+j=i+(j+1) by omega] at G;refine ⟨W,λhc=>(G ?_).eqv (by simpa using Eqv.puts (recs.take j) L)⟩;rcases hc with hc | hc
      ·omega
      ·exact hc.2
def Down (ops:List Oper) (D:Nat->Bool):Prop:=∀j o e,ops[j]?=some o->D j=true->e∈o.after.toList->Region.binds .any e=true->D e.on=true
def Must (ops:List Oper) (i j:Nat):Prop:=∀D,Down ops D->D j=true->D i=true
def Dn (a:Array Bool):Nat->Bool:=λi=>a.getD i false
structure DrawFacts (P:Program) (n nb0:Nat) (ops:List Oper) (recs:List Rec) (s0:St) (live:Nat->Prop):Prop where
 len:recs.length=ops.length
 nb:s0.nb=nb0+8*ops.length
 loc:∀(j:Nat) (o:Oper) (r:Rec),ops[j]?=some o->recs[j]?=some r->(∀t,r.dst=some t->o.dst=some t)/\(live j->sd P n nb0 ops j o r (appD 0 recs (λm=>decide (m<j)) s0))
 down:∀(j:Nat) (o:Oper) (e:Edge),ops[j]?=some o->e∈o.after.toList->Region.binds .any e=true->e.on<j
 apart:∀(i j:Nat) (x y:Oper),i<j->ops[i]?=some x->ops[j]?=some y->Must ops i j\/x.apart ops.toArray y=true
 blk:∀(i j:Nat) (x y:Rec),i<j->recs[i]?=some x->recs[j]?=some y->Must ops i j\/((∀b∈keys x.wr,b∉y.rd/\b∉keys y.wr)/\∀b∈x.rd,b∉keys y.wr)
theorem qQ {ops:List Oper} {a:Array Bool} {i:Nat} (hs:a.size=ops.length) (h:i∈Region.ready .any ops.toArray a):
  ∃o,ops[i]?=some o/\i<ops.length/\Dn a i=false/\∀e∈o.after.toList,Region.binds .any e=true->Dn a e.on=true:=by
 unfold Region.ready at h;simp only [lz,jP,az,vE] at h;obtain ⟨c,d,b⟩:=h;have f:ops[i]?=some ops[i]:=by simp [c]
 refine ⟨ops[i],f,c,?_,λe g j=>?_⟩
 ·unfold Dn;have:i<a.size:=by omega
  simp only [oL,RO this,yM] at d ⊢;simpa using d
 ·simp only [List.getElem?_toArray,f,dC,yM] at b;have:=(Array.all_eq_true'.1 b) e (by simpa using g);simp only [j,dc,vB] at this;exact this
theorem yS {ops:List Oper} {a:Array Bool} {i:Nat} {o:Oper} (hs:a.size=ops.length) (d:ops[i]?=some o) (c:Dn a i=false)
  (h:∀e∈o.after.toList,Region.binds .any e=true->Dn a e.on=true):i∈Region.ready .any ops.toArray a:=by
 have hi:i<ops.length:=by
  rcases aE i ops.length with b | b
  ·exact b
  ·rw [eX b] at d;cases d
 unfold Region.ready;simp only [lz,jP,az,vE];refine ⟨hi,?_,?_⟩
 ·have:i<a.size:=by omega
  unfold Dn at c;simp only [oL,RO this,yM] at c ⊢;simp [c]
 ·simp only [List.getElem?_toArray,d,dC,yM];refine Array.all_eq_true'.2 λe f=>?_;cases g:Region.binds .any e with
  | false=>rfl
  | true=>
   have:=h e (by simpa using f) g;unfold Dn at this;simpa using this
theorem wP {a:Array Bool} {i:Nat} (h:i<a.size) (j:Nat):Dn (a.setIfInBounds i true) j=if j=i then true else Dn a j:=by
 unfold Dn;simp only [oL];rw [Px];by_cases b:i=j
 ·subst b;simp [h]
 ·simp [b,show ¬j=i from λe=>b e.symm]
theorem Down.add {ops:List Oper} {D:Nat->Bool} (h:Down ops D) {i:Nat} {o:Oper} (U:ops[i]?=some o) (Q:∀e∈o.after.toList,Region.binds .any e=true->D e.on=true):
  Down ops λj=>if j=i then true else D j:=by
 intro j O e E F G J;show (if e.on=i then true else D e.on)=true;by_cases C:j=i
 ·subst C;rw [U] at E;cases E;have:=Q e G J;split
  ·rfl
  ·exact this
 ·simp only [C,aC] at F;have:=h j O e E F G J;split
  ·rfl
  ·exact this
theorem Must.in {ops:List Oper} {D:Nat->Bool} (h:Down ops D) {i k:Nat} {o:Oper} (F:ops[i]?=some o) (E:∀e∈o.after.toList,Region.binds .any e=true->D e.on=true)
  (G:Must ops k i) (C:k≠i):D k=true:=by
 have:=G _ (h.add F E) (by simp);simpa [C] using this
section
variable {n nb0:Nat} {ops:List Oper} {recs:List Rec} {s0:St} {live:Nat->Prop} (F:DrawFacts P n nb0 ops recs s0 live)
include F
theorem tz {i:Nat} {o:Oper} (h:ops[i]?=some o):∃r,recs[i]?=some r:=by
 have hi:i<ops.length:=by
  rcases aE i ops.length with a | a
  ·exact a
  ·rw [eX a] at h;cases h
 exact ⟨recs[i]'(by rw [F.len];exact hi),by simp [F.len,hi]⟩
theorem ug {i:Nat} {r:Rec} (h:recs[i]?=some r):∃o,ops[i]?=some o:=by
 have hi:i<recs.length:=by
  rcases aE i recs.length with a | a
  ·exact a
  ·rw [eX a] at h;cases h
 exact ⟨ops[i]'(by rw [<-F.len];exact hi),by simp [F.len▸hi]⟩
theorem yF {D:Nat->Bool} (q:Down ops D) {i:Nat} {o:Oper} (p:ops[i]?=some o) (u:D i=false) (x:∀e∈o.after.toList,Region.binds .any e=true->D e.on=true)
  {t:Nat} (s:t∈o.looksAt ops.toArray):look (appD 0 recs D s0).T t=look (appD 0 recs (λm=>decide (m<i)) s0).T t:=by
 rw [xg,xg];refine qd recs 0 _ _ t _ λj r v w=>?_;simp only [cb];obtain ⟨l,c⟩:=ug F v;have a:=((F.loc j l r c v).1 t w).symm;rcases Ba j i with d | f | g
 ·have k:D j=true:=by
   rcases F.apart j i l o d c p with n | b
   ·exact n.in q p x (by omega)
   ·exact absurd s ((Bo b).1 t a.symm)
  rw [k];simp [d]
 ·subst f;simp [u]
 ·have k:D j=false:=by
   rcases F.apart i j o l g p c with n | b
   ·cases h:D j with
    | false=>rfl
    | true=>have:=n D q h;rw [u] at this;cases this
   ·exact absurd s ((Bo b).2.2 t a.symm)
  rw [k];simp;omega
theorem ye {D:Nat->Bool} (l:Down ops D) {i:Nat} {o:Oper} {r:Rec} (w:ops[i]?=some o) (q:recs[i]?=some r) (n:D i=false)
  (v:∀e∈o.after.toList,Region.binds .any e=true->D e.on=true) {b:Nat} (p:b∈r.rd):look (appD 0 recs D s0).H b=look (appD 0 recs (λm=>decide (m<i)) s0).H b:=by
 rw [uN,uN];refine ng recs 0 _ _ b _ λj u s t=>?_;simp only [cb];rcases Ba j i with c | d | f
 ·have h:D j=true:=by
   rcases F.blk j i u r c s q with k | a
   ·exact k.in l w v (by omega)
   ·exact absurd p (a.1 b t).1
  rw [h];simp [c]
 ·subst d;simp [n]
 ·have h:D j=false:=by
   rcases F.blk i j r u f q s with k | a
   ·cases g:D j with
    | false=>rfl
    | true=>have:=k D l g;rw [n] at this;cases this
   ·exact absurd t (a.2 b p)
  rw [h];simp;omega
theorem xY {D:Nat->Bool} (z:Down ops D) {i:Nat} {o:Oper} {r:Rec} (B:ops[i]?=some o) (f:recs[i]?=some r) (C:D i=false):
  Eqv ((appD 0 recs D s0).put r) (appD 0 recs (λj=>if j=i then true else D j) s0):=by
 have m:=(F.loc i o r B f).1;refine ⟨λt=>?_,λb=>?_,by rw [Qf,jT,jT],by show (appD 0 recs D s0).lo=_;rw [tA,tA],by show (appD 0 recs D s0).ro=_;rw [gU,gU],by show (appD 0 recs D s0).rb=_;rw [uj,uj]⟩
 ·rw [LZ,xg,xg];by_cases g:r.dst=some t
  ·rw [ae g];symm;refine D9 recs 0 i _ t _ r f (by simp) g λk p y c s=>?_;simp only [cb,show ¬k=i by omega,aC];obtain ⟨ok,h⟩:=ug F c;have q:=(F.loc k ok p h c).1;rcases F.apart i k o ok y B h with w | e
   ·cases d:D k with
    | false=>rfl
    | true=>have:=w D z d;rw [C] at this;cases this
   ·exact absurd (q t s) ((Bo e).2.1 t (m t g))
  ·rw [ab g];refine qd recs 0 _ _ t _ λj p n x=>?_;simp only [cb];by_cases a:j=i
   ·subst a;rw [f] at n;cases n;exact absurd x g
   ·simp [a]
 ·rw [Kx,uN,uN];by_cases l:b∈keys r.wr
  ·obtain ⟨v,A⟩:=oP l;rw [A,Option.some_or];symm;rw [<-A];refine ES recs 0 i _ b _ r f (by simp) l λk p y c u=>?_;simp only [cb,show ¬k=i by omega,aC];rcases F.blk i k r p y f c with w | e
   ·cases d:D k with
    | false=>rfl
    | true=>have:=w D z d;rw [C] at this;cases this
   ·exact absurd u (e.1 b l).2
  ·rw [om l,Cb];refine ng recs 0 _ _ b _ λj p n u=>?_;simp only [cb];by_cases a:j=i
   ·subst a;rw [f] at n;cases n;exact absurd u l
   ·simp [a]
theorem Ai {kk:Nat} (D:∀j,kk<=j->j<ops.length->live j) {ι0:Inj} {w0:Base} {Q:Exit->Act->World->Prop} (U:∀ι a w,Inv n ι0 w0 ι (recs.foldl St.put s0) a w->Q .normal a w):
  ∀(fuel:Nat) (c:Array Bool) (ι:Inj) (a:Act) (w:World),c.size=ops.length->(∀j,j<kk->Dn c j=true)->Down ops (Dn c)->Inv n ι0 w0 ι (appD 0 recs (Dn c) s0) a w->
   (∀i,i<ops.length->Dn c i=false->∀b,nb0+8*i<=b->b<nb0+8*i+8->ι b=none)->((List.range ops.length).filter λi=>!Dn c i).length<=fuel->
   wpAny P .any ops.toArray Q fuel c a w:=by
 have y:∀(c:Array Bool) (ι:Inj) (a:Act) (w:World),c.size=ops.length->Inv n ι0 w0 ι (appD 0 recs (Dn c) s0) a w->Region.ready .any ops.toArray c=[]->Q .normal a w:=by
  intro c ι a w hs x m;have A:∀j,j<ops.length->Dn c j=true:=by
   intro j
   induction j using Nat.strongRecOn with
   | _ j ih=>
    intro s;cases M:Dn c j with
    | true=>rfl
    | false=>
     have f:ops[j]?=some ops[j]:=by simp [s]
     have N:=yS hs f M λe O E=>ih e.on (F.down j _ e f O E) (by have:=F.down j _ e f O E;omega);rw [m] at N;cases N
  rw [xB recs 0 (Dn c) s0 λj s=>by simpa using A j (by rw [<-F.len];exact s)] at x;exact U ι a w x
 intro fuel
 induction fuel with
 | zero=>
  intro c ι a w hs u z x q hc;have m:Region.ready .any ops.toArray c=[]:=by
   rw [List.eq_nil_iff_forall_not_mem];intro i hi;obtain ⟨o,f,g,p,_⟩:=qQ hs hi;have:i∈(List.range ops.length).filter λi=>!Dn c i:=by simp [g,p]
   have:=Jl this;omega
  exact ⟨m,y c ι a w hs x m⟩
 | succ fuel ih=>
  intro c ι a w hs u z x q hc;refine ⟨y c ι a w hs x,λi hi=>?_⟩;obtain ⟨o,f,g,p,J⟩:=qQ hs hi;obtain ⟨r,m⟩:=tz F f;have B:=(F.loc i o r f m).2 (D i (by rcases aE i kk with h | h;(· have:=u i h;rw [p] at this;cases this);exact h) g);have d:Dn (c.setIfInBounds i true)=λj=>if j=i then true else Dn c j:=by
   funext j;exact wP (by omega) j
  have G:=B (appD 0 recs (Dn c) s0) (λt T=>yF F z f p J T) (λb E=>ye F z f m p J E) (by rw [jT,jT]) (by rw [gU,gU]) ι0 w0 ι a w x (q i g p)
   (wpAny P .any ops.toArray Q fuel (c.setIfInBounds i true)) Q λI V w' S R=>by
    refine ih _ I V w' (by simpa using hs) (λj s=>by rw [d];simp only;split;(· rfl);exact u j s) (by rw [d];exact z.add f J) (by rw [d];exact R.eqv (xY F z f m p)) (λj s k b H K=>?_) ?_
    ·rw [d] at k;by_cases l:j=i
     ·simp [l] at k
     ·simp only [l,aC] at k;rw [S b (by omega)];exact q j s k b H K
    ·have:((List.range ops.length).filter λj=>!Dn (c.setIfInBounds i true) j).length<((List.range ops.length).filter λj=>!Dn c j).length:=by
      rw [d];have C:((List.range ops.length).filter λj=>!(if j=i then true else Dn c j))=((List.range ops.length).filter λj=>!Dn c j).filter λj=>decide (j≠i):=by
       rw [Dp];congr 1;funext j;by_cases l:j=i<;>simp [l]
      rw [C];refine CY.2 ⟨i,by simp [g,p],by simp⟩
     omega
  unfold wpOp;have L:ops.toArray[i]?=some o:=by simpa using f
  rw [L];simp only;split
  ·rename_i v;rw [ae v] at G;exact .inl G
  ·rename_i v;rw [ab v] at G;exact G
theorem MX {lim kk:Nat} (D:lim<ops.length) (g:∀j,kk<=j->j<lim->live j/\Must ops j lim) (q:∀j,lim<j->j<ops.length->Must ops lim j) {ι0:Inj} {w0:Base} {Q:Exit->Act->World->Prop}
  (Y:∀(fuel:Nat) (c:Array Bool) (ι:Inj) (a:Act) (w:World),c.size=ops.length->(∀j,j<lim->Dn c j=true)->Dn c lim=false->Down ops (Dn c)->Down ops (Dn (c.setIfInBounds lim true))->
   Inv n ι0 w0 ι (appD 0 recs (Dn c) s0) a w->((List.range ops.length).filter λi=>!Dn c i).length<=fuel+1->wpOp P ops.toArray Q lim (wpAny P .any ops.toArray Q fuel (c.setIfInBounds lim true)) a w):
  ∀(fuel:Nat) (c:Array Bool) (ι:Inj) (a:Act) (w:World),c.size=ops.length->(∀j,j<kk->Dn c j=true)->Down ops (Dn c)->Dn c lim=false->Inv n ι0 w0 ι (appD 0 recs (Dn c) s0) a w->
   (∀i,i<ops.length->Dn c i=false->∀b,nb0+8*i<=b->b<nb0+8*i+8->ι b=none)->((List.range ops.length).filter λi=>!Dn c i).length<=fuel->
   wpAny P .any ops.toArray Q fuel c a w:=by
 have K:∀(c:Array Bool),c.size=ops.length->Dn c lim=false->Region.ready .any ops.toArray c=[]->False:=by
  intro c hs hp v;have B:∀j,j<ops.length->Dn c j=true:=by
   intro j
   induction j using Nat.strongRecOn with
   | _ j ih=>
    intro x;cases R:Dn c j with
    | true=>rfl
    | false=>
     have f:ops[j]?=some ops[j]:=by simp [x]
     have T:=yS hs f R λe U H=>ih e.on (F.down j _ e f U H) (by have:=F.down j _ e f U H;omega);rw [v] at T;cases T
  rw [B lim D] at hp;cases hp
 intro fuel
 induction fuel with
 | zero=>
  intro c ι a w hs p l hp S u hc;have:lim∈(List.range ops.length).filter λi=>!Dn c i:=by simp [D,hp]
  have:=Jl this;omega
 | succ fuel ih=>
  intro c ι a w hs p l hp S u hc;refine ⟨λv=>(K c hs hp v).elim,λi hi=>?_⟩;obtain ⟨o,f,s,z,A⟩:=qQ hs hi;obtain ⟨r,v⟩:=tz F f;have d:Dn (c.setIfInBounds i true)=λj=>if j=i then true else Dn c j:=by
   funext j;exact wP (by omega) j
  by_cases G:i=lim
  ·subst G;refine Y fuel c ι a w hs (λj x=>?_) z l (by rw [d];exact l.add f A) S hc;rcases aE j kk with h | h
   ·exact p j h
   ·exact (g j h x).2.in l f A (by omega)
  have O:ops.toArray[i]?=some o:=by simpa using f
  unfold wpOp;rw [O];simp only;have hlt':i<lim:=by
   rcases aE i lim with h | h
   ·exact h
   ·have:=(q i (by omega) s).in l f A (λe=>G e.symm);rw [hp] at this;cases this
  have N:kk<=i:=by
   rcases aE i kk with h | h
   ·have:=p i h;rw [z] at this;cases this
   ·exact h
  have C:=(F.loc i o r f v).2 (g i N hlt').1
  have I:=C (appD 0 recs (Dn c) s0) (λt X=>yF F l f z A X) (λb H=>ye F l f v z A H) (by rw [jT,jT]) (by rw [gU,gU]) ι0 w0 ι a w S (u i s z)
   (wpAny P .any ops.toArray Q fuel (c.setIfInBounds i true)) Q λL Z w' W V=>by
    refine ih _ L Z w' (by simpa using hs) (λj x=>by rw [d];simp only;split;(· rfl);exact p j x) (by rw [d];exact l.add f A) (by rw [d];simp only [show ¬lim=i by omega,aC];exact hp) (by rw [d];exact V.eqv (xY F l f v z)) (λj x k b J M=>?_) ?_
    ·rw [d] at k;by_cases m:j=i
     ·simp [m] at k
     ·simp only [m,aC] at k;rw [W b (by omega)];exact u j x k b J M
    ·have:((List.range ops.length).filter λj=>!Dn (c.setIfInBounds i true) j).length<((List.range ops.length).filter λj=>!Dn c j).length:=by
      rw [d];have E:((List.range ops.length).filter λj=>!(if j=i then true else Dn c j))=((List.range ops.length).filter λj=>!Dn c j).filter λj=>decide (j≠i):=by
       rw [Dp];congr 1;funext j;by_cases m:j=i<;>simp [m]
      rw [E];refine CY.2 ⟨i,by simp [s,z],by simp⟩
     omega
  split
  ·rename_i y;rw [ae y] at I;exact .inl I
  ·rename_i y;rw [ab y] at I;exact I
theorem LG {lim:Nat} {ι0:Inj} {w0:Base} {Q:Exit->Act->World->Prop} {X:Oper} {pr:Rec} {v:V} {wr:List (Nat×Blk)} (g:ops[lim]?=some X) (H:recs[lim]?=some pr)
  (hlp:wX P n nb0 ops lim X v wr pr.rd (appD 0 recs (λm=>decide (m<lim)) s0))
  (A:∀j,j<ops.length->j≠lim->live j\/Must ops lim j)
  (hQ:∀D,Down ops D->(∀e∈X.after.toList,Region.binds .any e=true->D e.on=true)->D lim=false->∀ι x a w,VR ι v x->Inv n ι0 w0 ι ((appD 0 recs D s0).app none none wr s0.nb) a w->Q (.panic [{ v:=x,recovered:=false }]) a w):
  ∀(fuel:Nat) (c:Array Bool) (ι:Inj) (a:Act) (w:World),c.size=ops.length->Down ops (Dn c)->Dn c lim=false->Inv n ι0 w0 ι (appD 0 recs (Dn c) s0) a w->
   (∀i,i<ops.length->Dn c i=false->∀b,nb0+8*i<=b->b<nb0+8*i+8->ι b=none)->((List.range ops.length).filter λi=>!Dn c i).length<=fuel->
   wpAny P .any ops.toArray Q fuel c a w:=by
 have J:lim<ops.length:=by
  rcases aE lim ops.length with S | S
  ·exact S
  ·rw [eX S] at g;cases g
 have R:∀(c:Array Bool),c.size=ops.length->Dn c lim=false->Region.ready .any ops.toArray c=[]->False:=by
  intro c hs hp s;have G:∀j,j<ops.length->Dn c j=true:=by
   intro j
   induction j using Nat.strongRecOn with
   | _ j ih=>
    intro Z;cases hDj:Dn c j with
    | true=>rfl
    | false=>
     have f:ops[j]?=some ops[j]:=by simp [Z]
     have N:=yS hs f hDj λe he E=>ih e.on (F.down j _ e f he E) (by have:=F.down j _ e f he E;omega);rw [s] at N;cases N
  rw [G lim J] at hp;cases hp
 intro fuel
 induction fuel with
 | zero=>
  intro c ι a w hs k hp hI q hc;have:lim∈(List.range ops.length).filter λi=>!Dn c i:=by simp [J,hp]
  have:=Jl this;omega
 | succ fuel ih=>
  intro c ι a w hs k hp hI q hc;refine ⟨λs=>(R c hs hp s).elim,λi hi=>?_⟩;obtain ⟨o,f,p,u,z⟩:=qQ hs hi;obtain ⟨r,s⟩:=tz F f;have Y:ops.toArray[i]?=some o:=by simpa using f
  unfold wpOp;rw [Y];simp only;by_cases B:i=lim
  case neg=>
   rcases A i p B with hlv | N
   case inr=>
    have:=N.in k f z (λe=>B e.symm);rw [hp] at this;cases this
   have I:=(F.loc i o r f s).2 hlv;have d:Dn (c.setIfInBounds i true)=λj=>if j=i then true else Dn c j:=by
    funext j;exact wP (by omega) j
   have M:=I (appD 0 recs (Dn c) s0) (λt U=>yF F k f u z U) (λb E=>ye F k f s u z E) (by rw [jT,jT]) (by rw [gU,gU]) ι0 w0 ι a w hI (q i p u)
    (wpAny P .any ops.toArray Q fuel (c.setIfInBounds i true)) Q λy a' w' T L=>by
     refine ih _ y a' w' (by simpa using hs) (by rw [d];exact k.add f z) (by rw [d];simp only [show ¬lim=i by omega,aC];exact hp) (by rw [d];exact L.eqv (xY F k f s u)) (λj Z h b O W=>?_) ?_
     ·rw [d] at h;by_cases l:j=i
      ·simp [l] at h
      ·simp only [l,aC] at h;rw [T b (by omega)];exact q j Z h b O W
     ·have:((List.range ops.length).filter λj=>!Dn (c.setIfInBounds i true) j).length<((List.range ops.length).filter λj=>!Dn c j).length:=by
       rw [d];have K:((List.range ops.length).filter λj=>!(if j=i then true else Dn c j))=((List.range ops.length).filter λj=>!Dn c j).filter λj=>decide (j≠i):=by
        rw [Dp];congr 1;funext j;by_cases l:j=i<;>simp [l]
       rw [K];refine CY.2 ⟨i,by simp [p,u],by simp⟩
      omega
   split
   ·rename_i C;rw [ae C] at M;exact .inl M
   ·rename_i C;rw [ab C] at M;exact M
  case pos=>
   subst B;rw [g] at f;cases f;rw [H] at s;cases s
   obtain ⟨q1,q2⟩:=hlp (appD 0 recs (Dn c) s0) (λt U=>yF F k g u z U) (λb E=>ye F k g H u z E) (by rw [jT,jT]) (by rw [gU,gU]) ι0 w0 ι a w hI (q i p u)
    (wpAny P .any ops.toArray Q fuel (c.setIfInBounds i true)) Q λy x w' T L=>hQ _ k z u y x a w' T (by rw [jT] at L;exact L)
   rw [ae q1];exact .inl q2
end
theorem AW:∀{l:List Nat} {j:Nat},l.length<=j->getN l j=0
 | [],_,_=>rfl
 | _::_,0,h=>by simp at h
 | _::l,j+1,h=>AW (l:=l) (by simpa using h)
theorem pA:∀{l m:List Nat} {j:Nat},j<l.length->getN (l++m) j=getN l j
 | [],_,_,h=>by simp at h
 | _::_,_,0,_=>rfl
 | _::l,m,j+1,h=>pA (l:=l) (m:=m) (by simpa using h)
theorem pG:∀(l:List Nat) (x:Nat),getN (l++[x]) l.length=x
 | [],_=>rfl
 | _::l,x=>pG l x
theorem qb (acc:List Nat):∀(l:List Edge) (s i:Nat),(zJ acc l s).testBit i=true->s.testBit i=true\/∃e∈l,Region.binds .any e=true/\(e.on=i\/(getN acc e.on).testBit i=true)
 | [],s,i,h=>.inl h
 | e::l,s,i,h=>by
  simp only [zJ] at h;split at h
  ·rename_i f;rcases qb acc l _ i h with a | ⟨c,b,d⟩
   ·simp only [Nat.testBit_or,gu] at a;rcases a with (a | a) | a
    ·exact .inl a
    ·refine .inr ⟨e,by simp,f,.inl ?_⟩;rw [Nat.testBit_two_pow] at a;simpa using a
    ·exact .inr ⟨e,by simp,f,.inr a⟩
   ·exact .inr ⟨c,eC _ b,d⟩
  ·rcases qb acc l _ i h with a | ⟨c,b,d⟩
   ·exact .inl a
   ·exact .inr ⟨c,eC _ b,d⟩
theorem nH (ops:List Oper):∀(r:List Oper) (acc:List Nat),(∀j,r[j]?=ops[acc.length+j]?)->(∀j i,(getN acc j).testBit i=true->Must ops i j)->
  ∀j i,(getN (js r acc) j).testBit i=true->Must ops i j
 | [],acc,_,h=>h
 | o::r,acc,m,h=>by
  simp only [js];refine nH ops r _ (λj=>by have:=m (j+1);simp only [DI] at this;rw [this];simp;congr 1;omega) λj i a=>?_;rcases Ba j acc.length with g | c | p
  ·rw [pA g] at a;exact h j i a
  ·subst c;rw [pG] at a;have q:ops[acc.length]?=some o:=by have:=m 0;simpa using this.symm
   rcases qb acc _ _ _ a with b | ⟨e,n,d,b⟩
   ·simp at b
   ·intro D k f;have l:=k acc.length o e q f n d;rcases b with rfl | b
    ·exact l
    ·exact h e.on i b D k l
  ·rw [AW (by simp;omega)] at a;simp at a
theorem ip:∀(l:List Oper) (i:Nat),oJ i l=true->∀(j:Nat) (o:Oper) (e:Edge),l[j]?=some o->e∈o.after.toList->Region.binds .any e=true->e.on<i+j
 | [],_,_,_,_,_,h,_,_=>by simp at h
 | o::l,i,h,j,d,e,a,b,c=>by
  simp only [oJ,az,bL] at h;cases j with
  | zero=>
   simp only [kn,ah] at a;subst a;have:=h.1 e b;simp only [c,dc,vB] at this;exact aD this
  | succ j=>have:=ip l (i+1) h.2 j d e (by simpa using a) b c;omega
theorem pI {ops:Array Oper} {o:Oper} {a:Nat}:∀(l:List Oper) (i:Nat),qK ops o a i l=true->∀(j:Nat) (p:Oper),l[j]?=some p->a.testBit (i+j)=true\/p.apart ops o=true
 | [],_,_,_,_,h=>by simp at h
 | q::l,i,h,j,p,b=>by
  simp only [qK,az,gu] at h;cases j with
  | zero=>simp only [kn,ah] at b;subst b;exact h.1
  | succ j=>have:=pI l (i+1) h.2 j p (by simpa using b);rwa [show i+1+j=i+(j+1) by omega] at this
theorem ll {ops:Array Oper} {masks:List Nat}:∀(l a:List Oper),qy ops masks a.length a l=true->∀(i j:Nat) (x y:Oper),i<a.length+j->(a++l)[i]?=some x->l[j]?=some y->
  (getN masks (a.length+j)).testBit i=true\/x.apart ops y=true
 | [],_,_,_,_,_,_,_,_,h=>by simp at h
 | o::l,a,h,i,j,x,y,hi,hx,hy=>by
  simp only [qy,az] at h;cases j with
  | zero=>
   simp only [kn,ah] at hy;subst hy;have:=pI a 0 h.1 i x (by rw [lK (by simpa using hi)] at hx;exact hx);simpa using this
  | succ j=>
   have b:=h.2;rw [show a.length+1=(a++[o]).length by simp] at b;have:=ll l (a++[o]) b i j x y (by simp;omega) (by simpa using hx) (by simpa using hy);rwa [show (a++[o]).length+j=a.length+(j+1) by simp;omega] at this
theorem oG {masks:List Nat}:∀{tr:List TE},nF masks tr=true->∀x∈tr,∀y∈tr,x.i<y.i->uh masks x y=true\/uh masks y x=true
 | [],_,x,hx,_,_,_=>by cases hx
 | z::l,h,x,hx,y,hy,c=>by
  simp only [nF,az,bL] at h;rcases cq.1 hx with b | b
  ·subst b;rcases cq.1 hy with a | a
   ·subst a;omega
   ·exact .inl (h.1 y a)
  ·rcases cq.1 hy with a | a
   ·subst a;exact .inr (h.1 x b)
   ·exact oG h.2 x b y a c
theorem vz {x y:TE} (h:Ot x y=false):(∀b∈x.ws,b∉y.rd/\b∉y.ws)/\∀b∈x.rd,b∉y.ws:=by
 simp only [Ot,ov,pM,gu,not_or,List.contains_iff_mem] at h;exact ⟨λb a=>h.1 b a,λb a=>h.2 b a⟩
theorem zV {masks:List Nat} {x y:TE} (h:uh masks x y=true\/uh masks y x=true) (e:x.i<y.i):
  (getN masks y.i).testBit x.i=true\/((∀b∈x.ws,b∉y.rd/\b∉y.ws)/\∀b∈x.rd,b∉y.ws):=by
 have g:Nat.blt x.i y.i=true:=co e;have j:Nat.blt y.i x.i=false:=by
  cases f:Nat.blt y.i x.i with
  | false=>rfl
  | true=>have:y.i<x.i:=aD f;omega
 rcases h with h | h
 ·simp only [uh,g,aj,gu,kN] at h;exact h.imp id vz
 ·simp only [uh,j,af,gu,kN] at h;refine h.imp id λh=>?_;obtain ⟨a,b⟩:=vz h;exact ⟨λc hc=>⟨λk=>b c k hc,λd=>(a c d).2 hc⟩,λc hc d=>(a c d).1 hc⟩
theorem rC:∀(ops:List Oper) {T:List (Nat×Option V)} (t:Nat) (v:V),look (Fe ops T) t=some (some v)->(∀o∈ops,o.dst≠some t)/\look T t=some (some v)
 | [],T,t,v,h=>⟨by simp,h⟩
 | o::l,T,t,v,h=>by
  simp only [Fe] at h;split at h
  ·rename_i d a;rw [aL] at h;split at h
   ·cases h
   ·rename_i c;obtain ⟨b,f⟩:=rC l t v h;refine ⟨λx hx=>?_,f⟩;rcases cq.1 hx with rfl | hx
    ·rw [a];intro e;cases e;exact c rfl
    ·exact b x hx
  ·rename_i a;obtain ⟨b,f⟩:=rC l t v h;refine ⟨λx hx=>?_,f⟩;rcases cq.1 hx with rfl | hx
   ·rw [a];intro e;cases e
   ·exact b x hx
theorem FT {α:Type} {E:List Ent} (hE:∀x∈E,dT P x) {n:Nat} {ops:List Oper} {s:St} {k:Ex->St->Option α} {z:α} (h:A9 P E n ops s k=some z) (id:Nat):
  SemC P n (.region id ops.toArray true) s λex s'=>k ex s'=some z:=by
 intro ι0 w0 ι a w hI;unfold A9 at h;split at h
 case h_2=>cases h
 rename_i hok;simp only [az,Ek] at hok;obtain ⟨⟨hb1,hb2,_⟩,S⟩:=hok;have g:=nH ops ops [] (by simp) (λj i u=>by simp [getN] at u);have hI1:Inv n ι0 w0 ι { s with nb:=s.nb+8*ops.length } a { w with drawn:=w.drawn+1 }:=by
  have d:=hI.drawn (w.drawn+1);exact ⟨d.size,d.defers,d.tmps,⟨d.mem.inj,λb r u=>by have:=d.mem.low b r u;simp only;omega,d.mem.dom,d.mem.blk⟩,d.ext,d.new,d.fr,d.low,d.fz,d.gl⟩
 have J:∀i,Dn (Array.replicate ops.toArray.size false) i=false:=by
  intro i;unfold Dn;simp only [oL,Rr];split<;>rfl
 have hno:∀(l:List Rec) (i:Nat) (D:Nat->Bool) (s:St),(∀j,D j=false)->appD i l D s=s:=by
  intro l
  induction l with
  | nil=>intros;rfl
  | cons r l ih=>intro i D s hD;simp only [appD,hD i,bE,aC];exact ih _ D s hD
 have C:∀(trf:List TE) (x y:Rec) (i j:Nat),nF (js ops []) (trf.filter λx=>!(x.rd.isEmpty&&x.ws.isEmpty))=true->i<j->((⟨0+i,x.rd,keys x.wr⟩:TE)∈trf\/(x.rd=[]/\x.wr=[]))->((⟨0+j,y.rd,keys y.wr⟩:TE)∈trf\/(y.rd=[]/\y.wr=[]))->
   Must ops i j\/((∀b∈keys x.wr,b∉y.rd/\b∉keys y.wr)/\∀b∈x.rd,b∉keys y.wr):=by
  intro trf x y i j I B hx hy;rcases hx with hxm | ⟨hx1,hx2⟩
  ·rcases hy with hym | ⟨hy1,hy2⟩
   ·simp only [cb] at hxm hym;by_cases Y:(x.rd=[]/\x.wr=[])
    ·exact .inr (by simp [Y.1,Y.2,keys])
    ·by_cases X:(y.rd=[]/\y.wr=[])
     ·exact .inr (by simp [X.1,X.2,keys])
     ·have m1:(⟨i,x.rd,keys x.wr⟩:TE)∈trf.filter λx=>!(x.rd.isEmpty&&x.ws.isEmpty):=by
       refine lz.2 ⟨hxm,?_⟩;simp only [keys,kN,Ez,EM];rcases E4 (x.rd=[]) with h | h
       ·exact .inr (by simpa using λhw=>Y ⟨h,hw⟩)
       ·exact .inl h
      have m2:(⟨j,y.rd,keys y.wr⟩:TE)∈trf.filter λx=>!(x.rd.isEmpty&&x.ws.isEmpty):=by
       refine lz.2 ⟨hym,?_⟩;simp only [keys,kN,Ez,EM];rcases E4 (y.rd=[]) with h | h
       ·exact .inr (by simpa using λhw=>X ⟨h,hw⟩)
       ·exact .inl h
      have:=zV (oG I _ m1 _ m2 B) B;exact this.imp (g j i) λh=>h
   ·exact .inr (by simp [hy1,hy2,keys])
  ·exact .inr (by simp [hx1,hx2,keys])
 rcases xT hE ops 0 _ [] (by simp) h with ⟨recs,Q,trf,g1,R,O,_,g5,g6⟩ | ⟨p,po,recs,Q,sp,trf,v,wr,rp,g1,g0,gr,gd,gw,rfl,R,O,_,g7,g5,g6⟩
 ·split at R
  case h_2=>cases R
  rename_i I;have F:DrawFacts P n s.nb ops recs { s with nb:=s.nb+8*ops.length } (λ_=>True):=by
   refine ⟨g1,rfl,λj o r N Z=>?_,λj o e N he u=>?_,λi j x y B hx hy=>?_,λi j x y B hx hy=>?_⟩
   ·obtain ⟨p1,p2⟩:=g6 j o r N Z;simp only [cb] at p2;have e:=ou recs 0 j { s with nb:=s.nb+8*ops.length };simp only [cb] at e;exact ⟨λt V=>p1▸V,λ_=>p2.eqv e⟩
   ·have:=ip ops 0 hb1 j o e N he u;omega
   ·have:=ll (masks:=js ops []) ops [] hb2 i j x y (by simpa using B) (by simpa using hx) hy;simp only [cA,cb] at this;exact this.imp (g j i) λh=>h
   ·exact C trf x y i j I B (g5 i x hx) (g5 j y hy)
  refine wp_region_any S (Ai (kk:=0) F (λ_ _ _=>trivial) (λG a' w' f=>⟨.normal,Q,G,rfl,f.eqv O.symm,R⟩) _ _ ι a _ (by simp) (λj hj=>by omega) (λj o e _ M=>by rw [J j] at M;cases M) (by rw [hno recs 0 _ _ J];exact hI1) (λi _ _ b u _=>?_) ?_)
  ·exact hI.fresh b (by omega)
  ·have:=IB (λi=>!Dn (Array.replicate ops.toArray.size false) i) (List.range ops.length);simpa using this
 ·split at R
  case h_2=>cases R
  rename_i hpk;simp only [az,QZ] at hpk;obtain ⟨hw,I⟩:=hpk;simp only [cb] at R g7 hw;have B:p<ops.length:=by
   rcases aE p ops.length with h' | h'
   ·exact h'
   ·rw [eX h'] at g0;cases g0
  have A:∀i r,recs[i]?=some r->i≠p->(i<p/\Must ops i p)\/r.wr=[]:=by
   intro i r Z L;rcases g5 i r Z L with hx | hx
   ·have:=(bL.1 hw) _ hx;simp only [cb,gu,az] at this;rcases this with h | h
    ·right;simpa [keys] using h
    ·exact .inl ⟨aD h.1,g p i h.2⟩
   ·exact .inr hx.2
  have g5':∀(j:Nat) (r:Rec),recs[j]?=some r->j≠p->(⟨0+j,r.rd,keys r.wr⟩:TE)∈trf\/(r.rd=[]/\r.wr=[]):=g5;have F:DrawFacts P n s.nb ops recs { s with nb:=s.nb+8*ops.length } (λj=>j<p\/(p<j/\(getN (js ops []) (0+j)).testBit (0+p)=false)):=by
   refine ⟨g1,rfl,λj o r N Z=>?_,λj o e N he u=>?_,λi j x y W hx hy=>?_,λi j x y W hx hy=>?_⟩
   ·obtain ⟨p1,p2⟩:=g6 j o r N Z;have e:=ou recs 0 j { s with nb:=s.nb+8*ops.length };simp only [cb] at e p2 ⊢;exact ⟨λt V=>p1▸V,λhc=>(p2 hc).eqv e⟩
   ·have:=ip ops 0 hb1 j o e N he u;omega
   ·have:=ll (masks:=js ops []) ops [] hb2 i j x y (by simpa using W) (by simpa using hx) hy;simp only [cA,cb] at this;exact this.imp (g j i) λh=>h
   ·by_cases L:i=p
    ·
     subst L;rw [gr] at hx;cases hx;rcases A j y hy (by omega) with ⟨h,_⟩ | h
     ·omega
     ·exact .inr (by simp [gw,h,keys])
    ·by_cases K:j=p
     ·subst K;rw [gr] at hy;cases hy;rcases A i x hx L with ⟨_,h⟩ | h
      ·exact .inl h
      ·exact .inr (by simp [gw,h,keys])
     ·exact C trf x y i j I W (g5 i x hx L) (g5 j y hy K)
  have c:Eqv ((recs.take p).foldl St.put { s with nb:=s.nb+8*ops.length }) (appD 0 recs (λm=>decide (m<p)) { s with nb:=s.nb+8*ops.length }):=by
   have e:=ou recs 0 p { s with nb:=s.nb+8*ops.length };simpa using e
  have U:∀j,j<ops.length->j≠p->(j<p\/(p<j/\(getN (js ops []) (0+j)).testBit (0+p)=false))\/Must ops p j:=by
   intro j _ hne;cases u:(getN (js ops []) (0+j)).testBit (0+p) with
   | false=>exact .inl ((Nat.lt_or_gt_of_ne hne).imp (λh=>h) λh=>⟨h,rfl⟩)
   | true=>simp only [cb] at u;exact .inr (g j p u)
  refine wp_region_any S (LG F g0 gr (g7.eqv c) U (λD hD hd hn G x a' w' hv f=>⟨.pan v,_,G,⟨x,rfl,hv⟩,?inv,R⟩) _ _ ι a _ (by simp) (λj o e _ M=>by rw [J j] at M;cases M) (J p) (by rw [hno _ 0 _ _ J];exact hI1) (λi _ _ b u _=>?fresh) ?len)
  case inv=>
   have hH:∀b,look Q.H b=look (appD 0 recs D { s with nb:=s.nb+8*ops.length }).H b:=by
    intro b;rw [O.H,c.H,uN,uN];refine ng _ 0 _ _ b _ λj r hj u=>?_;simp only [cb];by_cases K:j=p
    ·subst K;rw [gr] at hj;cases hj;rw [gw] at u;simp [keys] at u
    ·rcases A j r hj K with ⟨d,hm⟩ | hm
     ·rw [hm.in hD g0 hd (by omega)];simp [d]
     ·rw [hm] at u;simp [keys] at u
   have hT:∀t v,look (Fe ops s.T) t=some (some v)->look (appD 0 recs D { s with nb:=s.nb+8*ops.length }).T t=some (some v):=by
    intro t v V;obtain ⟨d,h2⟩:=rC ops t v V;rw [xg,vZ _ 0 D t _ λj r hj Z=>?_]
    ·exact h2
    ·exfalso;obtain ⟨o,N⟩:=ug F hj;exact d o (fY N) ((F.loc j o r N hj).1 t Z)
   refine ⟨f.size,f.defers,λt v V=>f.tmps t v (hT t v V),⟨f.mem.inj,λb r u=>?_,f.mem.dom,λb blk hl hdd=>f.mem.blk b blk ?_ hdd⟩,?_,f.new,?_,λb r u=>?_,?_,?_⟩
   ·have:=f.mem.low b r u;have e:=O.nb.trans c.nb;rw [jT] at e;show b<Q.nb;rw [e];exact this
   ·show look (wr++(appD 0 recs D { s with nb:=s.nb+8*ops.length }).H) b=_;rw [m6,<-hH b,<-m6];exact hl
   ·have e:=O.rb.trans c.rb;rw [uj] at e;have d:=f.ext;show ∀b q,ι0 b=some q->G b=some q\/Q.rb<=b;rw [e];simp only [St.app,uj] at d;exact d
   ·have e:=O.ro.trans c.ro;rw [gU] at e;have d:=f.fr;show Fr (roI ι0 Q.ro) w0.w w';rw [e];simp only [St.app,gU] at d;exact d
   ·have e:=O.lo.trans c.lo;rw [tA] at e;have d:=f.low b r u;show b<Q.lo;rw [e];simp only [St.app,tA] at d;exact d
   ·have e:=O.ro.trans c.ro;rw [gU] at e;have d:=f.fz;show ∀b q,G b=some (some q)->q.fz=true->b<Q.ro;rw [e];simp only [St.app,gU] at d;exact d
   ·have e:=O.ro.trans c.ro;rw [gU] at e;have d:=f.gl;show GL (roI ι0 Q.ro) w0.w;rw [e];simp only [St.app,gU] at d;exact d
  case fresh=>exact hI.fresh b (by omega)
  case len=>
   have:=IB (λi=>!Dn (Array.replicate ops.toArray.size false) i) (List.range ops.length);simpa using this
end Go.Abs
