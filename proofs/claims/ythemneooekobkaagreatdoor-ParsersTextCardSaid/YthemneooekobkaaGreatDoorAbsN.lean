
/- A region that draws its order: where what is unordered does not meet, every order comes to what the order of the text comes to.
   Conditions: none; generic over the program. -/
import Derived.Test.YthemneooekobkaaGreatDoorAbsM
set_option linter.unusedSimpArgs false
set_option linter.unusedVariables false
namespace Go.Abs
variable {P:Program}
structure Rec where
 dst:Option Nat
 val:Option V
 wr:List (Nat×Blk)
 rd:List Nat
def St.put (s:St) (r:Rec):St:=s.app r.dst r.val r.wr s.nb
def keys (wr:List (Nat×Blk)):List Nat:=wr.map (·.1)
theorem qb {α:Type} (l m:List (Nat×α)) (n:Nat):look (l++m) n=(look l n).or (look m n):=by
 induction l with
 | nil=>rfl
 | cons x l ih=>
  obtain ⟨k,v⟩:=x;rw [eK,aX,aX];split
  ·rfl
  ·exact ih
theorem rq {α:Type} {l:List (Nat×α)} {n:Nat} (h:n∉l.map (·.1)):look l n=none:=by
 induction l with
 | nil=>rfl
 | cons x l ih=>
  obtain ⟨k,v⟩:=x;simp only [fW,cq,not_or] at h;rw [aX,ab (λe=>h.1 e.symm)];exact ih h.2
theorem sE {α:Type} {l:List (Nat×α)} {n:Nat} (h:n∈l.map (·.1)):∃v,look l n=some v:=by
 induction l with
 | nil=>simp at h
 | cons x l ih=>
  obtain ⟨k,v⟩:=x;rw [aX];split
  ·exact ⟨v,rfl⟩
  ·rename_i a;simp only [fW,cq] at h;exact ih (h.resolve_left λe=>a e.symm)
theorem QW (s:St) (r:Rec) (t:Nat):look (s.put r).T t=if r.dst=some t then some r.val else look s.T t:=by
 unfold St.put St.app;cases a:r.dst with
 | none=>simp
 | some d=>
  simp only [aX];by_cases h:d=t
  ·subst h;simp
  ·simp [h]
theorem P9 (s:St) (r:Rec) (b:Nat):look (s.put r).H b=(look r.wr b).or (look s.H b):=qb _ _ _
theorem Vl (s:St) (r:Rec):(s.put r).nb=s.nb:=rfl
structure Eqv (s s':St):Prop where
 T:∀t,look s.T t=look s'.T t
 H:∀b,look s.H b=look s'.H b
 nb:s.nb=s'.nb
 lo:s.lo=s'.lo
 ro:s.ro=s'.ro
 rb:s.rb=s'.rb
theorem Eqv.refl (s:St):Eqv s s:=⟨λ_=>rfl,λ_=>rfl,rfl,rfl,rfl,rfl⟩
theorem Eqv.symm {s s':St} (h:Eqv s s'):Eqv s' s:=⟨λt=>(h.T t).symm,λb=>(h.H b).symm,h.nb.symm,h.lo.symm,h.ro.symm,h.rb.symm⟩
theorem Eqv.trans {a b c:St} (h:Eqv a b) (k:Eqv b c):Eqv a c:=⟨λt=>(h.T t).trans (k.T t),λt=>(h.H t).trans (k.H t),h.nb.trans k.nb,h.lo.trans k.lo,h.ro.trans k.ro,h.rb.trans k.rb⟩
theorem Eqv.put {s s':St} (h:Eqv s s') (r:Rec):Eqv (s.put r) (s'.put r):=
 ⟨λt=>by rw [QW,QW,h.T],λb=>by rw [P9,P9,h.H],h.nb,h.lo,h.ro,h.rb⟩
theorem Eqv.puts:∀(l:List Rec) {s s':St},Eqv s s'->Eqv (l.foldl St.put s) (l.foldl St.put s')
 | [],_,_,h=>h
 | r::l,_,_,h=>Eqv.puts l (h.put r)
theorem Inv.eqv {n:Nat} {ι0 ι:Inj} {w0:Base} {s s':St} {a:Act} {w:World} (h:Inv n ι0 w0 ι s a w) (e:Eqv s s'):Inv n ι0 w0 ι s' a w:=
 ⟨h.size,h.defers,λt v E=>h.tmps t v (by rw [e.T];exact E),⟨h.mem.inj,λb r C=>by rw [<-e.nb];exact h.mem.low b r C,h.mem.dom,λb blk G F=>h.mem.blk b blk (by rw [e.H];exact G) F⟩,by rw [<-e.rb];exact h.ext,h.new,by rw [<-e.ro];exact h.fr,λb r C=>by rw [<-e.lo];exact h.low b r C,by rw [<-e.ro];exact h.fz,by rw [<-e.ro];exact h.gl⟩
def appD:Nat->List Rec->(Nat->Bool)->St->St
 | _,[],_,s=>s
 | i,r::l,D,s=>appD (i+1) l D (if D i=true then s.put r else s)
def wX:Nat->List Rec->(Nat->Bool)->Nat->Option (Option V)->Option (Option V)
 | _,[],_,_,x=>x
 | i,r::l,D,t,x=>wX (i+1) l D t (if D i=true/\r.dst=some t then some r.val else x)
def yQ:Nat->List Rec->(Nat->Bool)->Nat->Option Blk->Option Blk
 | _,[],_,_,x=>x
 | i,r::l,D,b,x=>yQ (i+1) l D b (if D i=true then (look r.wr b).or x else x)
theorem zx:∀(l:List Rec) (i:Nat) (D:Nat->Bool) (s:St) (t:Nat),look (appD i l D s).T t=wX i l D t (look s.T t)
 | [],_,_,_,_=>rfl
 | r::l,i,D,s,t=>by
  simp only [appD,wX,zx l];congr 1;cases D i
  ·simp
  ·simp only [ku,aM];rw [QW]
theorem xi:∀(l:List Rec) (i:Nat) (D:Nat->Bool) (s:St) (b:Nat),look (appD i l D s).H b=yQ i l D b (look s.H b)
 | [],_,_,_,_=>rfl
 | r::l,i,D,s,b=>by
  simp only [appD,yQ,xi l];congr 1;cases D i
  ·simp
  ·simp only [aM];rw [P9]
theorem lT:∀(l:List Rec) (i:Nat) (D:Nat->Bool) (s:St),(appD i l D s).nb=s.nb
 | [],_,_,_=>rfl
 | r::l,i,D,s=>by
  simp only [appD,lT l];split<;>rfl
theorem jy:∀(l:List Rec) (i:Nat) (D:Nat->Bool) (s:St),(appD i l D s).ro=s.ro
 | [],_,_,_=>rfl
 | r::l,i,D,s=>by
  simp only [appD,jy l];split<;>rfl
theorem yd:∀(l:List Rec) (i:Nat) (D:Nat->Bool) (s:St),(appD i l D s).lo=s.lo
 | [],_,_,_=>rfl
 | r::l,i,D,s=>by
  simp only [appD,yd l];split<;>rfl
theorem yu:∀(l:List Rec) (i:Nat) (D:Nat->Bool) (s:St),(appD i l D s).rb=s.rb
 | [],_,_,_=>rfl
 | r::l,i,D,s=>by
  simp only [appD,yu l];split<;>rfl
theorem tq:∀(l:List Rec) (i:Nat) (D a:Nat->Bool) (t:Nat) (x:Option (Option V)),(∀j r,l[j]?=some r->r.dst=some t->D (i+j)=a (i+j))->wX i l D t x=wX i l a t x
 | [],_,_,_,_,_,_=>rfl
 | r::l,i,D,a,t,x,h=>by
  simp only [wX];have b:=h 0 r (by simp);simp only [cH] at b;rw [tq l (i+1) D a t _ λj e d f=>by have:=h (j+1) e (by simpa using d) f;rwa [show i+(j+1)=i+1+j by omega] at this];congr 1;by_cases c:r.dst=some t
  ·rw [b c]
  ·simp [c]
theorem zI (l:List Rec) (i:Nat) (D:Nat->Bool) (t:Nat) (x:Option (Option V)) (h:∀j r,l[j]?=some r->r.dst=some t->D (i+j)=false):wX i l D t x=x:=by
 induction l generalizing i x with
 | nil=>rfl
 | cons r l ih=>
  simp only [wX];have a:=h 0 r (by simp);simp only [cH] at a;have:¬(D i=true/\r.dst=some t):=λ⟨b,e⟩=>by rw [a e] at b;cases b
  rw [ab this];exact ih (i+1) x λj d c f=>by have:=h (j+1) d (by simpa using c) f;rwa [show i+(j+1)=i+1+j by omega] at this
theorem HS:∀(l:List Rec) (i j:Nat) (D:Nat->Bool) (t:Nat) (x:Option (Option V)) (r:Rec),l[j]?=some r->D (i+j)=true->r.dst=some t->
  (∀k b,j<k->l[k]?=some b->b.dst=some t->D (i+k)=false)->wX i l D t x=some r.val
 | [],_,_,_,_,_,_,h,_,_,_=>by simp at h
 | r0::l,i,0,D,t,x,r,h,d,e,a=>by
  simp only [lC,aw] at h;subst h;simp only [cH] at d;simp only [wX];rw [ae ⟨d,e⟩];exact zI l (i+1) D t _ λk b f c=>by have:=a (k+1) b (by omega) (by simpa using f) c;rwa [show i+(k+1)=i+1+k by omega] at this
 | r0::l,i,j+1,D,t,x,r,h,d,e,a=>by
  simp only [wX]
  exact HS l (i+1) j D t _ r (by simpa using h) (by rwa [show i+1+j=i+(j+1) by omega]) e λk b f g c=>by
   have:=a (k+1) b (by omega) (by simpa using g) c;rwa [show i+(k+1)=i+1+k by omega] at this
theorem qt:∀(l:List Rec) (i:Nat) (D a:Nat->Bool) (b:Nat) (x:Option Blk),(∀j r,l[j]?=some r->b∈keys r.wr->D (i+j)=a (i+j))->yQ i l D b x=yQ i l a b x
 | [],_,_,_,_,_,_=>rfl
 | r::l,i,D,a,b,x,h=>by
  simp only [yQ];have c:=h 0 r (by simp);simp only [cH] at c;rw [qt l (i+1) D a b _ λj f e g=>by have:=h (j+1) f (by simpa using e) g;rwa [show i+(j+1)=i+1+j by omega] at this];congr 1;by_cases d:b∈keys r.wr
  ·rw [c d]
  ·simp [rq d]
theorem JB (l:List Rec) (i:Nat) (D:Nat->Bool) (b:Nat) (x:Option Blk) (h:∀j r,l[j]?=some r->b∈keys r.wr->D (i+j)=false):yQ i l D b x=x:=by
 induction l generalizing i x with
 | nil=>rfl
 | cons r l ih=>
  simp only [yQ];have a:=h 0 r (by simp);simp only [cH] at a;have:(if D i=true then (look r.wr b).or x else x)=x:=by
   by_cases c:b∈keys r.wr
   ·rw [a c];simp
   ·rw [rq c];simp
  rw [this];exact ih (i+1) x λj e d f=>by have:=h (j+1) e (by simpa using d) f;rwa [show i+(j+1)=i+1+j by omega] at this
theorem HJ:∀(l:List Rec) (i j:Nat) (D:Nat->Bool) (b:Nat) (x:Option Blk) (r:Rec),l[j]?=some r->D (i+j)=true->b∈keys r.wr->
  (∀k c,j<k->l[k]?=some c->b∈keys c.wr->D (i+k)=false)->yQ i l D b x=look r.wr b
 | [],_,_,_,_,_,_,h,_,_,_=>by simp at h
 | r0::l,i,0,D,b,x,r,h,e,f,a=>by
  simp only [lC,aw] at h;subst h;simp only [cH] at e;simp only [yQ];obtain ⟨v,m⟩:=sE f;rw [ae e,m];exact JB l (i+1) D b _ λk c g d=>by have:=a (k+1) c (by omega) (by simpa using g) d;rwa [show i+(k+1)=i+1+k by omega] at this
 | r0::l,i,j+1,D,b,x,r,h,e,f,a=>by
  simp only [yQ]
  exact HJ l (i+1) j D b _ r (by simpa using h) (by rwa [show i+1+j=i+(j+1) by omega]) f λk c g n d=>by
   have:=a (k+1) c (by omega) (by simpa using n) d;rwa [show i+(k+1)=i+1+k by omega] at this
theorem rh:∀(l:List Rec) (i j:Nat) (s:St),Eqv ((l.take j).foldl St.put s) (appD i l (λm=>decide (m<i+j)) s)
 | [],i,j,s=>by simp [appD];exact Eqv.refl s
 | r::l,i,0,s=>by
  have:∀(l:List Rec) (i a:Nat) (s:St),i<=a->appD a l (λm=>decide (m<i)) s=s:=by
   intro l
   induction l with
   | nil=>intros;rfl
   | cons r l ih=>intro i a s h;simp only [appD,show ¬a<i by omega,nN,bs,aG];exact ih i (a+1) s (by omega)
  simp only [oC,IS,cH];rw [this (r::l) i i s (bi _)];exact Eqv.refl s
 | r::l,i,j+1,s=>by
  simp only [oI,vP,appD,show i<i+(j+1) by omega,oy,aM];have:=rh l (i+1) j (s.put r);rwa [show (λm=>decide (m<i+1+j))=λm=>decide (m<i+(j+1)) by funext m;simp only [nV];omega] at this
theorem CC:∀(l:List Rec) (i:Nat) (D:Nat->Bool) (s:St),(∀j,j<l.length->D (i+j)=true)->appD i l D s=l.foldl St.put s
 | [],_,_,_,_=>rfl
 | r::l,i,D,s,h=>by
  have a:=h 0 (by simp);simp only [cH] at a;simp only [appD,a,aM,vP];exact CC l (i+1) D _ λj b=>by have:=h (j+1) (by simpa using b);rwa [show i+(j+1)=i+1+j by omega] at this
def uT (P:Program) (n nb0:Nat) (ops:List Oper) (i:Nat) (o:Oper) (r:Rec) (base:St):Prop:=
 ∀s':St,(∀t∈o.looksAt ops.toArray,look s'.T t=look base.T t)->(∀b∈r.rd,look s'.H b=look base.H b)->s'.nb=base.nb->s'.ro=base.ro->
  ∀(ι0:Inj) (w0:Base) (ι:Inj) (a:Act) (w:World),Inv n ι0 w0 ι s' a w->(∀b,nb0+8*i<=b->b<nb0+8*i+8->ι b=none)->∀(K:Act->World->Prop) (Q:Exit->Act->World->Prop),
   (∀c d w',(∀b,(b<nb0+8*i\/nb0+8*i+8<=b)->c b=ι b)->Inv n ι0 w0 c (s'.put r) d w'->K d w')->
   if Region.wanted o (yielded ops.toArray a.tmps) then o.wp P a w K Q else K (a.put o.dst undef) w
def zG (P:Program) (n nb0:Nat) (ops:List Oper) (i:Nat) (o:Oper) (v:V) (wr:List (Nat×Blk)) (rd:List Nat) (base:St):Prop:=
 ∀s':St,(∀t∈o.looksAt ops.toArray,look s'.T t=look base.T t)->(∀b∈rd,look s'.H b=look base.H b)->s'.nb=base.nb->s'.ro=base.ro->
  ∀(ι0:Inj) (w0:Base) (ι:Inj) (a:Act) (w:World),Inv n ι0 w0 ι s' a w->(∀b,nb0+8*i<=b->b<nb0+8*i+8->ι b=none)->∀(K:Act->World->Prop) (Q:Exit->Act->World->Prop),
   (∀c x w',VR c v x->Inv n ι0 w0 c (s'.app none none wr s'.nb) a w'->Q (.panic [{ v:=x,recovered:=false }]) a w')->
   Region.wanted o (yielded ops.toArray a.tmps)=true/\o.wp P a w K Q
theorem zG.eqv {n nb0:Nat} {ops:List Oper} {i:Nat} {o:Oper} {v:V} {wr:List (Nat×Blk)} {rd:List Nat} {base C:St} (h:zG P n nb0 ops i o v wr rd base) (e:Eqv base C):zG P n nb0 ops i o v wr rd C:=
 λs' G F O Q=>h s' (λt E=>by rw [G t E,e.T]) (λb J=>by rw [F b J,e.H]) (by rw [O,e.nb]) (by rw [Q,e.ro])
theorem uT.eqv {n nb0:Nat} {ops:List Oper} {i:Nat} {o:Oper} {r:Rec} {base C:St} (h:uT P n nb0 ops i o r base) (e:Eqv base C):uT P n nb0 ops i o r C:=
 λs' G F O Q=>h s' (λt E=>by rw [G t E,e.T]) (λb J=>by rw [F b J,e.H]) (by rw [O,e.nb]) (by rw [Q,e.ro])
theorem zH {α:Type} {ops:List Oper} {o:Oper} {s:St} {k:Bool->St->Option α} {z:α} (h:yH ops o s k=some z):
  ∃c r,k c r=some z/\Eqv r s/\∀s':St,(∀t∈o.looksAt ops.toArray,look s'.T t=look s.T t)->∀(n:Nat) (ι0 ι:Inj) (w0:Base) (a:Act) (w:World),Inv n ι0 w0 ι s' a w->
   Region.wanted o (yielded ops.toArray a.tmps)=c:=by
 unfold yH at h;split at h
 ·rename_i l;exact ⟨true,s,h,Eqv.refl s,λ_ _ _ _ _ _ _ _ _=>by simp [Region.wanted,l]⟩
 ·rename_i j c l;split at h
  case h_2=>cases h
  rename_i d i;have f:d∈o.looksAt ops.toArray:=by
   unfold Oper.looksAt;unfold gtmp at i;split at i
   ·rename_i u q;simp [l,q,i]
   ·cases i
  have again:∀x,look s.T d=some (some (.b x))->Eqv { s with T:=(d,some (V.b x))::s.T } s:=by
   intro x hx;refine ⟨λt=>?_,λ_=>rfl,rfl,rfl,rfl,rfl⟩;show look ((d,some (V.b x))::s.T) t=look s.T t;rw [aX];split
   ·rename_i e;subst e;exact hx.symm
   ·rfl
  split at h
  ·rename_i x hx;cases x
   ·refine ⟨!c,_,h,again _ hx,λs' hs n ι0 ι w0 a w p=>?_⟩;obtain ⟨y,m,g⟩:=p.tmps d _ (by rw [hs d f];exact hx);simp only [VR] at g;subst g;have hy:=sg i a.tmps;rw [m] at hy;cases c<;>simp [Region.wanted,l,hy]
   ·refine ⟨c,_,h,again _ hx,λs' hs n ι0 ι w0 a w p=>?_⟩;obtain ⟨y,m,g⟩:=p.tmps d _ (by rw [hs d f];exact hx);simp only [VR] at g;subst g;have hy:=sg i a.tmps;rw [m] at hy;cases c<;>simp [Region.wanted,l,hy]
  ·rename_i hx;refine ⟨false,s,h,Eqv.refl s,λs' hs n ι0 ι w0 a w p=>?_⟩;obtain ⟨y,m,g⟩:=p.tmps d _ (by rw [hs d f];exact hx);simp only [VR] at g;obtain ⟨v,rfl,_⟩:=g;have hy:=sg i a.tmps;rw [m] at hy;simp [Region.wanted,l,hy]
  ·cases h
theorem yG {ops:Array Oper} {o:Oper} {s s':St} (h:∀t∈o.looksAt ops,look s'.T t=look s.T t):∀x∈o.op.operands.toList,opd s'.T x=opd s.T x:=by
 intro x hx;cases x with
 | tmp t=>
  have:=h t (by
   unfold Oper.looksAt;simp only [lk,List.mem_filterMap];exact .inl ⟨.tmp t,hx,rfl⟩)
  simp only [opd,this]
 | _=>rfl
theorem LF {α:Type} {E:List Ent} (hE:∀x∈E,ge P x) {n nb0:Nat} {ops:List Oper} {masks:List Nat} {p:Nat} {k:List TE->Option α} {z:α}:∀(l:List Oper) (i:Nat) (s:St) (tr:List TE),
  nb0+8*(i+l.length)<=s.nb->runB P E n nb0 ops masks p i l s tr k=some z->
  ∃(recs:List Rec) (trf:List TE),recs.length=l.length/\k trf=some z/\(∀x∈tr,x∈trf)/\
   (∀j r,recs[j]?=some r->(⟨i+j,r.rd,keys r.wr⟩:TE)∈trf\/(r.rd=[]/\r.wr=[]))/\
   ∀(j:Nat) (o:Oper) (r:Rec),l[j]?=some o->recs[j]?=some r->r.dst=o.dst/\((getN masks (i+j)).testBit p=false->uT P n nb0 ops (i+j) o r ((recs.take j).foldl St.put s))
 | [],i,s,tr,F,h=>⟨[],tr,rfl,h,λ_ h=>h,λj r h=>by simp at h,λj o r h=>by simp at h⟩
 | o::l,i,s,tr,F,h=>by
  simp only [aV] at F;simp only [runB] at h;have more:∀(e:Rec) (c:List TE) (G:St),e.dst=o.dst->((getN masks i).testBit p=false->uT P n nb0 ops i o e s)->Eqv G (s.put e)->s.nb<=G.nb->(∀x∈tr,x∈c)->((⟨i,e.rd,keys e.wr⟩:TE)∈c\/(e.rd=[]/\e.wr=[]))->
    runB P E n nb0 ops masks p (i+1) l G c k=some z->∃(recs:List Rec) (trf:List TE),recs.length=(o::l).length/\k trf=some z/\(∀x∈tr,x∈trf)/\
   (∀j r,recs[j]?=some r->(⟨i+j,r.rd,keys r.wr⟩:TE)∈trf\/(r.rd=[]/\r.wr=[]))/\
   ∀(j:Nat) (A:Oper) (r:Rec),(o::l)[j]?=some A->recs[j]?=some r->r.dst=A.dst/\((getN masks (i+j)).testBit p=false->uT P n nb0 ops (i+j) A r ((recs.take j).foldl St.put s)):=by
   intro e c G N hl e2 hnb2 R L h;obtain ⟨recs,trf,g1,g2,Z,g5,g6⟩:=LF hE l (i+1) G c (by omega) h;refine ⟨e::recs,trf,by simp [g1],g2,λx hx=>Z x (R x hx),λj r m=>?_,λj A r U m=>?_⟩
   ·cases j with
    | zero=>simp only [lC,aw] at m;subst m;exact L.imp (Z _) id
    | succ j=>have:=g5 j r (by simpa using m);rwa [show i+1+j=i+(j+1) by omega] at this
   ·cases j with
    | zero=>
     simp only [lC,aw] at U m;subst U m;exact ⟨N,hl⟩
    | succ j=>
     obtain ⟨p1,p2⟩:=g6 j A r (by simpa using U) (by simpa using m);rw [show i+1+j=i+(j+1) by omega] at p2;exact ⟨p1,λq=>(p2 q).eqv (by simpa using Eqv.puts (recs.take j) e2)⟩
  split at h
  ·rename_i C;exact more ⟨o.dst,none,[],[]⟩ tr (s.app o.dst none [] s.nb) rfl (λq=>by rw [C] at q;cases q) (Eqv.refl _) (bi _) (λ_ h=>h) (.inr ⟨rfl,rfl⟩) h
  obtain ⟨D,y,h,u,W⟩:=zH h;have d:y.nb=s.nb:=u.nb;cases D
  ·simp only at h;split at h
   case h_2=>cases h
   rename_i N;refine more ⟨o.dst,some (.tp []),[],[]⟩ tr (y.app o.dst (some (.tp [])) [] y.nb) rfl (λ_ s' J V Y X ι0 w0 ι a w B I K Q O=>?_) (u.put ⟨o.dst,some (.tp []),[],[]⟩) (yE d.symm) (λ_ h=>h) (.inr ⟨rfl,rfl⟩) h;rw [W s' J n ι0 ι w0 a w B];simp only [bs,aG];exact O ι _ _ (λ_ _=>rfl) (B.skip N)
  ·simp only at h;rcases Dk hE (by omega) h with ⟨val,wr,rd,g,S,f⟩ | ⟨v,wr,rd,S,f⟩
   ·refine more ⟨o.dst,val,wr,rd⟩ (⟨i,rd,keys wr⟩::tr) (y.app o.dst val wr y.nb) rfl (λ_ s' J V Y X ι0 w0 ι a w B I K Q O=>?_) (u.put ⟨o.dst,val,wr,rd⟩) (yE d.symm) (λx hx=>fN _ hx) (.inl (by simp [keys])) S;rw [W s' J n ι0 ι w0 a w B];simp only [aM];refine f s' (yG λt ht=>by rw [J t ht,u.T]) (λb q=>by rw [V b q,u.H]) (by rw [Y,d]) (by rw [X,u.ro]) ι0 w0 ι a w B (by simpa using I) K Q λM a' w' z1 z2=>O M a' w' (by simpa using z1) z2
   ·cases S
theorem Ci {α:Type} {E:List Ent} (hE:∀x∈E,ge P x) {n nb0:Nat} {ops:List Oper} {masks:List Nat} {k:St->List TE->Option α} {kp:Nat->V->St->List TE->Option α} {z:α}:∀(l:List Oper) (i:Nat) (s:St) (tr:List TE),
  nb0+8*(i+l.length)<=s.nb->runD P E n nb0 ops masks kp i l s tr k=some z->
  (∃(recs:List Rec) (d:St) (trf:List TE),recs.length=l.length/\k d trf=some z/\Eqv d (recs.foldl St.put s)/\(∀x∈tr,x∈trf)/\
   (∀j r,recs[j]?=some r->(⟨i+j,r.rd,keys r.wr⟩:TE)∈trf\/(r.rd=[]/\r.wr=[]))/\
   ∀(j:Nat) (o:Oper) (r:Rec),l[j]?=some o->recs[j]?=some r->r.dst=o.dst/\uT P n nb0 ops (i+j) o r ((recs.take j).foldl St.put s))\/
  (∃(p:Nat) (op:Oper) (recs:List Rec) (d:St) (J:St) (trf:List TE) (v:V) (wr:List (Nat×Blk)) (y:Rec),recs.length=l.length/\l[p]?=some op/\recs[p]?=some y/\y.dst=op.dst/\y.wr=[]/\J=d.app none none wr d.nb/\kp (i+p) v J trf=some z/\Eqv d ((recs.take p).foldl St.put s)/\(∀x∈tr,x∈trf)/\
   zG P n nb0 ops (i+p) op v wr y.rd ((recs.take p).foldl St.put s)/\
   (∀j r,recs[j]?=some r->j≠p->(⟨i+j,r.rd,keys r.wr⟩:TE)∈trf\/(r.rd=[]/\r.wr=[]))/\
   ∀(j:Nat) (o:Oper) (r:Rec),l[j]?=some o->recs[j]?=some r->r.dst=o.dst/\((j<p\/(p<j/\(getN masks (i+j)).testBit (i+p)=false))->uT P n nb0 ops (i+j) o r ((recs.take j).foldl St.put s)))
 | [],i,s,tr,hnb,h=>.inl ⟨[],s,tr,rfl,h,Eqv.refl s,λ_ h=>h,λj r h=>by simp at h,λj o r h=>by simp at h⟩
 | o::l,i,s,tr,hnb,h=>by
  simp only [aV] at hnb;simp only [runD] at h;obtain ⟨want,F,h,q,hw⟩:=zH h;have e:F.nb=s.nb:=q.nb;have more:∀(B:Rec) (m:List TE) (s2:St),B.dst=o.dst->uT P n nb0 ops i o B s->Eqv s2 (s.put B)->s.nb<=s2.nb->(∀x∈tr,x∈m)->((⟨i,B.rd,keys B.wr⟩:TE)∈m\/(B.rd=[]/\B.wr=[]))->
    runD P E n nb0 ops masks kp (i+1) l s2 m k=some z->
    (∃(recs:List Rec) (d:St) (trf:List TE),recs.length=(o::l).length/\k d trf=some z/\Eqv d (recs.foldl St.put s)/\(∀x∈tr,x∈trf)/\
   (∀j r,recs[j]?=some r->(⟨i+j,r.rd,keys r.wr⟩:TE)∈trf\/(r.rd=[]/\r.wr=[]))/\
   ∀(j:Nat) (f:Oper) (r:Rec),(o::l)[j]?=some f->recs[j]?=some r->r.dst=f.dst/\uT P n nb0 ops (i+j) f r ((recs.take j).foldl St.put s))\/
    (∃(p:Nat) (op:Oper) (recs:List Rec) (d:St) (J:St) (trf:List TE) (v:V) (wr:List (Nat×Blk)) (y:Rec),recs.length=(o::l).length/\(o::l)[p]?=some op/\recs[p]?=some y/\y.dst=op.dst/\y.wr=[]/\J=d.app none none wr d.nb/\kp (i+p) v J trf=some z/\Eqv d ((recs.take p).foldl St.put s)/\(∀x∈tr,x∈trf)/\
   zG P n nb0 ops (i+p) op v wr y.rd ((recs.take p).foldl St.put s)/\
   (∀j r,recs[j]?=some r->j≠p->(⟨i+j,r.rd,keys r.wr⟩:TE)∈trf\/(r.rd=[]/\r.wr=[]))/\
   ∀(j:Nat) (f:Oper) (r:Rec),(o::l)[j]?=some f->recs[j]?=some r->r.dst=f.dst/\((j<p\/(p<j/\(getN masks (i+j)).testBit (i+p)=false))->uT P n nb0 ops (i+j) f r ((recs.take j).foldl St.put s))):=by
   intro B m s2 hd hl L hnb2 Z O h;rcases Ci hE l (i+1) s2 m (by omega) h with ⟨recs,d,trf,U,N,g3,M,g5,g6⟩ | ⟨p,op,recs,d,J,trf,v,wr,y,U,g0,gr,gd,gw,gs,N,g3,M,g7,g5,g6⟩
   ·refine .inl ⟨B::recs,d,trf,by simp [U],N,g3.trans (Eqv.puts recs L),λx hx=>M x (Z x hx),λj r c=>?_,λj f r A c=>?_⟩
    ·cases j with
     | zero=>simp only [lC,aw] at c;subst c;exact O.imp (M _) id
     | succ j=>have:=g5 j r (by simpa using c);rwa [show i+1+j=i+(j+1) by omega] at this
    ·cases j with
     | zero=>
      simp only [lC,aw] at A c;subst A c;exact ⟨hd,hl⟩
     | succ j=>
      obtain ⟨R,I⟩:=g6 j f r (by simpa using A) (by simpa using c);rw [show i+1+j=i+(j+1) by omega] at I;exact ⟨R,I.eqv (by simpa using Eqv.puts (recs.take j) L)⟩
   ·rw [show i+1+p=i+(p+1) by omega] at N g7;refine .inr ⟨p+1,op,B::recs,d,J,trf,v,wr,y,by simp [U],by simpa using g0,by simpa using gr,gd,gw,gs,N,g3.trans (by simpa using Eqv.puts (recs.take p) L),λx hx=>M x (Z x hx),g7.eqv (by simpa using Eqv.puts (recs.take p) L),λj r c hjp=>?_,λj f r A c=>?_⟩
    ·cases j with
     | zero=>simp only [lC,aw] at c;subst c;exact O.imp (M _) id
     | succ j=>have:=g5 j r (by simpa using c) (by omega);rwa [show i+1+j=i+(j+1) by omega] at this
    ·cases j with
     | zero=>
      simp only [lC,aw] at A c;subst A c;exact ⟨hd,λ_=>hl⟩
     | succ j=>
      obtain ⟨R,I⟩:=g6 j f r (by simpa using A) (by simpa using c);rw [show i+1+j=i+(j+1) by omega,show i+1+p=i+(p+1) by omega] at I;exact ⟨R,λhc=>(I (hc.imp (λh=>by omega) λh=>⟨by omega,h.2⟩)).eqv (by simpa using Eqv.puts (recs.take j) L)⟩
  cases want
  ·simp only at h;split at h
   case h_2=>cases h
   rename_i hd;refine more ⟨o.dst,some (.tp []),[],[]⟩ tr (F.app o.dst (some (.tp [])) [] F.nb) rfl (λs' D S X W ι0 w0 ι a w G C K Q Y=>?_) (q.put ⟨o.dst,some (.tp []),[],[]⟩) (yE e.symm) (λ_ h=>h) (.inr ⟨rfl,rfl⟩) h;rw [hw s' D n ι0 ι w0 a w G];simp only [bs,aG];exact Y ι _ _ (λ_ _=>rfl) (G.skip hd)
  ·simp only at h;rcases Dk hE (by omega) h with ⟨val,wr,rd,g,hk,u⟩ | ⟨v,wr,rd,hk,u⟩
   ·refine more ⟨o.dst,val,wr,rd⟩ (⟨i,rd,keys wr⟩::tr) (F.app o.dst val wr F.nb) rfl (λs' D S X W ι0 w0 ι a w G C K Q Y=>?_) (q.put ⟨o.dst,val,wr,rd⟩) (yE e.symm) (λx hx=>fN _ hx) (.inl (by simp [keys])) hk;rw [hw s' D n ι0 ι w0 a w G];simp only [aM];refine u s' (yG λt ht=>by rw [D t ht,q.T]) (λb hb=>by rw [S b hb,q.H]) (by rw [X,e]) (by rw [W,q.ro]) ι0 w0 ι a w G (by simpa using C) K Q λι' a' w' z1 z2=>Y ι' a' w' (by simpa using z1) z2
   ·obtain ⟨recs,trf,U,N,M,g5,g6⟩:=LF hE l (i+1) _ tr (by simp only [St.app];omega) hk;have L:Eqv (F.app o.dst none [] F.nb) (s.put ⟨o.dst,none,[],rd⟩):=q.put ⟨o.dst,none,[],rd⟩;refine .inr ⟨0,o,⟨o.dst,none,[],rd⟩::recs,F,_,trf,v,wr,⟨o.dst,none,[],rd⟩,by simp [U],rfl,rfl,rfl,rfl,rfl,N,q,M,λs' D S X W ι0 w0 ι a w G C K Q Y=>?_,λj r c hjp=>?_,λj f r A c=>?_⟩
    ·simp only [oC,IS] at D S X W;exact ⟨hw s' D n ι0 ι w0 a w G,u s' (yG λt ht=>by rw [D t ht,q.T]) (λb hb=>by rw [S b hb,q.H]) (by rw [X,e]) (by rw [W,q.ro]) ι0 w0 ι a w G (by simpa using C) K Q Y⟩
    ·cases j with
     | zero=>exact absurd rfl hjp
     | succ j=>have:=g5 j r (by simpa using c);rwa [show i+1+j=i+(j+1) by omega] at this
    ·cases j with
     | zero=>
      simp only [lC,aw] at A c;subst A c;exact ⟨rfl,λh=>by omega⟩
     | succ j=>
      obtain ⟨R,I⟩:=g6 j f r (by simpa using A) (by simpa using c);rw [show i+1+j=i+(j+1) by omega] at I;refine ⟨R,λhc=>(I ?_).eqv (by simpa using Eqv.puts (recs.take j) L)⟩;rcases hc with hc | hc
      ·omega
      ·exact hc.2
def Down (ops:List Oper) (D:Nat->Bool):Prop:=∀j o e,ops[j]?=some o->D j=true->e∈o.after.toList->Region.binds .any e=true->D e.on=true
def Must (ops:List Oper) (i j:Nat):Prop:=∀D,Down ops D->D j=true->D i=true
def Dn (a:Array Bool):Nat->Bool:=λi=>a.getD i false
structure DrawFacts (P:Program) (n nb0:Nat) (ops:List Oper) (recs:List Rec) (s0:St) (live:Nat->Prop):Prop where
 len:recs.length=ops.length
 nb:s0.nb=nb0+8*ops.length
 loc:∀(j:Nat) (o:Oper) (r:Rec),ops[j]?=some o->recs[j]?=some r->(∀t,r.dst=some t->o.dst=some t)/\(live j->uT P n nb0 ops j o r (appD 0 recs (λm=>decide (m<j)) s0))
 down:∀(j:Nat) (o:Oper) (e:Edge),ops[j]?=some o->e∈o.after.toList->Region.binds .any e=true->e.on<j
 apart:∀(i j:Nat) (x y:Oper),i<j->ops[i]?=some x->ops[j]?=some y->Must ops i j\/x.apart ops.toArray y=true
 blk:∀(i j:Nat) (x y:Rec),i<j->recs[i]?=some x->recs[j]?=some y->Must ops i j\/((∀b∈keys x.wr,b∉y.rd/\b∉keys y.wr)/\∀b∈x.rd,b∉keys y.wr)
theorem tY {ops:List Oper} {a:Array Bool} {i:Nat} (hs:a.size=ops.length) (h:i∈Region.ready .any ops.toArray a):
  ∃o,ops[i]?=some o/\i<ops.length/\Dn a i=false/\∀e∈o.after.toList,Region.binds .any e=true->Dn a e.on=true:=by
 unfold Region.ready at h;simp only [lQ,jp,aD,AL] at h;obtain ⟨d,b,f⟩:=h;have c:ops[i]?=some ops[i]:=by simp [d]
 refine ⟨ops[i],c,d,?_,λe g j=>?_⟩
 ·unfold Dn;have:i<a.size:=by omega
  simp only [rt,WM this,xk] at b ⊢;simpa using b
 ·simp only [List.getElem?_toArray,c,fi,xk] at f;have:=(Array.all_eq_true'.1 f) e (by simpa using g);simp only [j,dn,oh] at this;exact this
theorem BC {ops:List Oper} {a:Array Bool} {i:Nat} {o:Oper} (hs:a.size=ops.length) (d:ops[i]?=some o) (b:Dn a i=false)
  (h:∀e∈o.after.toList,Region.binds .any e=true->Dn a e.on=true):i∈Region.ready .any ops.toArray a:=by
 have hi:i<ops.length:=by
  rcases aI i ops.length with c | c
  ·exact c
  ·rw [fV c] at d;cases d
 unfold Region.ready;simp only [lQ,jp,aD,AL];refine ⟨hi,?_,?_⟩
 ·have:i<a.size:=by omega
  unfold Dn at b;simp only [rt,WM this,xk] at b ⊢;simp [b]
 ·simp only [List.getElem?_toArray,d,fi,xk];refine Array.all_eq_true'.2 λe f=>?_;cases g:Region.binds .any e with
  | false=>rfl
  | true=>
   have:=h e (by simpa using f) g;unfold Dn at this;simpa using this
theorem Am {a:Array Bool} {i:Nat} (h:i<a.size) (j:Nat):Dn (a.setIfInBounds i true) j=if j=i then true else Dn a j:=by
 unfold Dn;simp only [rt];rw [U3];by_cases b:i=j
 ·subst b;simp [h]
 ·simp [b,show ¬j=i from λe=>b e.symm]
theorem Down.add {ops:List Oper} {D:Nat->Bool} (h:Down ops D) {i:Nat} {o:Oper} (Q:ops[i]?=some o) (U:∀e∈o.after.toList,Region.binds .any e=true->D e.on=true):
  Down ops λj=>if j=i then true else D j:=by
 intro j O e E G F J;show (if e.on=i then true else D e.on)=true;by_cases C:j=i
 ·subst C;rw [Q] at E;cases E;have:=U e F J;split
  ·rfl
  ·exact this
 ·simp only [C,aG] at G;have:=h j O e E G F J;split
  ·rfl
  ·exact this
theorem Must.in {ops:List Oper} {D:Nat->Bool} (h:Down ops D) {i k:Nat} {o:Oper} (F:ops[i]?=some o) (E:∀e∈o.after.toList,Region.binds .any e=true->D e.on=true)
  (G:Must ops k i) (C:k≠i):D k=true:=by
 have:=G _ (h.add F E) (by simp);simpa [C] using this
section
variable {n nb0:Nat} {ops:List Oper} {recs:List Rec} {s0:St} {live:Nat->Prop} (F:DrawFacts P n nb0 ops recs s0 live)
include F
theorem xP {i:Nat} {o:Oper} (h:ops[i]?=some o):∃r,recs[i]?=some r:=by
 have hi:i<ops.length:=by
  rcases aI i ops.length with a | a
  ·exact a
  ·rw [fV a] at h;cases h
 exact ⟨recs[i]'(by rw [F.len];exact hi),by simp [F.len,hi]⟩
theorem xM {i:Nat} {r:Rec} (h:recs[i]?=some r):∃o,ops[i]?=some o:=by
 have hi:i<recs.length:=by
  rcases aI i recs.length with a | a
  ·exact a
  ·rw [fV a] at h;cases h
 exact ⟨ops[i]'(by rw [<-F.len];exact hi),by simp [F.len▸hi]⟩
theorem BS {D:Nat->Bool} (v:Down ops D) {i:Nat} {o:Oper} (l:ops[i]?=some o) (q:D i=false) (x:∀e∈o.after.toList,Region.binds .any e=true->D e.on=true)
  {t:Nat} (s:t∈o.looksAt ops.toArray):look (appD 0 recs D s0).T t=look (appD 0 recs (λm=>decide (m<i)) s0).T t:=by
 rw [zx,zx];refine tq recs 0 _ _ t _ λj r u w=>?_;simp only [cX];obtain ⟨g,c⟩:=xM F u;have a:=((F.loc j g r c u).1 t w).symm;rcases Fp j i with d | f | n
 ·have k:D j=true:=by
   rcases F.apart j i g o d c l with h | b
   ·exact h.in v l x (by omega)
   ·exact absurd s ((Fj b).1 t a.symm)
  rw [k];simp [d]
 ·subst f;simp [q]
 ·have k:D j=false:=by
   rcases F.apart i j o g n l c with h | b
   ·cases p:D j with
    | false=>rfl
    | true=>have:=h D v p;rw [q] at this;cases this
   ·exact absurd s ((Fj b).2.2 t a.symm)
  rw [k];simp;omega
theorem AW {D:Nat->Bool} (t:Down ops D) {i:Nat} {o:Oper} {r:Rec} (v:ops[i]?=some o) (s:recs[i]?=some r) (l:D i=false)
  (w:∀e∈o.after.toList,Region.binds .any e=true->D e.on=true) {b:Nat} (u:b∈r.rd):look (appD 0 recs D s0).H b=look (appD 0 recs (λm=>decide (m<i)) s0).H b:=by
 rw [xi,xi];refine qt recs 0 _ _ b _ λj p n q=>?_;simp only [cX];rcases Fp j i with c | d | h
 ·have g:D j=true:=by
   rcases F.blk j i p r c n s with f | a
   ·exact f.in t v w (by omega)
   ·exact absurd u (a.1 b q).1
  rw [g];simp [c]
 ·subst d;simp [l]
 ·have g:D j=false:=by
   rcases F.blk i j r p h s n with f | a
   ·cases k:D j with
    | false=>rfl
    | true=>have:=f D t k;rw [l] at this;cases this
   ·exact absurd q (a.2 b u)
  rw [g];simp;omega
theorem Cb {D:Nat->Bool} (z:Down ops D) {i:Nat} {o:Oper} {r:Rec} (C:ops[i]?=some o) (f:recs[i]?=some r) (B:D i=false):
  Eqv ((appD 0 recs D s0).put r) (appD 0 recs (λj=>if j=i then true else D j) s0):=by
 have p:=(F.loc i o r C f).1;refine ⟨λt=>?_,λb=>?_,by rw [Vl,lT,lT],by show (appD 0 recs D s0).lo=_;rw [yd,yd],by show (appD 0 recs D s0).ro=_;rw [jy,jy],by show (appD 0 recs D s0).rb=_;rw [yu,yu]⟩
 ·rw [QW,zx,zx];by_cases l:r.dst=some t
  ·rw [ae l];symm;refine HS recs 0 i _ t _ r f (by simp) l λk m u c y=>?_;simp only [cX,show ¬k=i by omega,aG];obtain ⟨ok,g⟩:=xM F c;have x:=(F.loc k ok m g c).1;rcases F.apart i k o ok u C g with w | d
   ·cases e:D k with
    | false=>rfl
    | true=>have:=w D z e;rw [B] at this;cases this
   ·exact absurd (x t y) ((Fj d).2.1 t (p t l))
  ·rw [ab l];refine tq recs 0 _ _ t _ λj m n s=>?_;simp only [cX];by_cases a:j=i
   ·subst a;rw [f] at n;cases n;exact absurd s l
   ·simp [a]
 ·rw [P9,xi,xi];by_cases h:b∈keys r.wr
  ·obtain ⟨v,A⟩:=sE h;rw [A,Option.some_or];symm;rw [<-A];refine HJ recs 0 i _ b _ r f (by simp) h λk m u c q=>?_;simp only [cX,show ¬k=i by omega,aG];rcases F.blk i k r m u f c with w | d
   ·cases e:D k with
    | false=>rfl
    | true=>have:=w D z e;rw [B] at this;cases this
   ·exact absurd q (d.1 b h).2
  ·rw [rq h,FO];refine qt recs 0 _ _ b _ λj m n q=>?_;simp only [cX];by_cases a:j=i
   ·subst a;rw [f] at n;cases n;exact absurd q h
   ·simp [a]
theorem Ey {kk:Nat} (C:∀j,kk<=j->j<ops.length->live j) {ι0:Inj} {w0:Base} {Q:Exit->Act->World->Prop} (T:∀ι a w,Inv n ι0 w0 ι (recs.foldl St.put s0) a w->Q .normal a w):
  ∀(fuel:Nat) (c:Array Bool) (ι:Inj) (a:Act) (w:World),c.size=ops.length->(∀j,j<kk->Dn c j=true)->Down ops (Dn c)->Inv n ι0 w0 ι (appD 0 recs (Dn c) s0) a w->
   (∀i,i<ops.length->Dn c i=false->∀b,nb0+8*i<=b->b<nb0+8*i+8->ι b=none)->((List.range ops.length).filter λi=>!Dn c i).length<=fuel->
   wpAny P .any ops.toArray Q fuel c a w:=by
 have fin:∀(c:Array Bool) (ι:Inj) (a:Act) (w:World),c.size=ops.length->Inv n ι0 w0 ι (appD 0 recs (Dn c) s0) a w->Region.ready .any ops.toArray c=[]->Q .normal a w:=by
  intro c ι a w hs u p;have A:∀j,j<ops.length->Dn c j=true:=by
   intro j
   induction j using Nat.strongRecOn with
   | _ j ih=>
    intro v;cases I:Dn c j with
    | true=>rfl
    | false=>
     have f:ops[j]?=some ops[j]:=by simp [v]
     have N:=BC hs f I λe M D=>ih e.on (F.down j _ e f M D) (by have:=F.down j _ e f M D;omega);rw [p] at N;cases N
  rw [CC recs 0 (Dn c) s0 λj v=>by simpa using A j (by rw [<-F.len];exact v)] at u;exact T ι a w u
 intro fuel
 induction fuel with
 | zero=>
  intro c ι a w hs s z u x hc;have p:Region.ready .any ops.toArray c=[]:=by
   rw [List.eq_nil_iff_forall_not_mem];intro i hi;obtain ⟨o,f,g,m,_⟩:=tY hs hi;have:i∈(List.range ops.length).filter λi=>!Dn c i:=by simp [g,m]
   have:=F6 this;omega
  exact ⟨p,fin c ι a w hs u p⟩
 | succ fuel ih=>
  intro c ι a w hs s z u x hc;refine ⟨fin c ι a w hs u,λi hi=>?_⟩;obtain ⟨o,f,g,m,L⟩:=tY hs hi;obtain ⟨r,p⟩:=xP F f;have B:=(F.loc i o r f p).2 (C i (by rcases aI i kk with h | h;(· have:=s i h;rw [m] at this;cases this);exact h) g);have d:Dn (c.setIfInBounds i true)=λj=>if j=i then true else Dn c j:=by
   funext j;exact Am (by omega) j
  have E:=B (appD 0 recs (Dn c) s0) (λt R=>BS F z f m L R) (λb D=>AW F z f p m L D) (by rw [lT,lT]) (by rw [jy,jy]) ι0 w0 ι a w u (x i g m)
   (wpAny P .any ops.toArray Q fuel (c.setIfInBounds i true)) Q λH U w' S O=>by
    refine ih _ H U w' (by simpa using hs) (λj v=>by rw [d];simp only;split;(· rfl);exact s j v) (by rw [d];exact z.add f L) (by rw [d];exact O.eqv (Cb F z f p m)) (λj v l b K J=>?_) ?_
    ·rw [d] at l;by_cases k:j=i
     ·simp [k] at l
     ·simp only [k,aG] at l;rw [S b (by omega)];exact x j v l b K J
    ·have:((List.range ops.length).filter λj=>!Dn (c.setIfInBounds i true) j).length<((List.range ops.length).filter λj=>!Dn c j).length:=by
      rw [d];have y:((List.range ops.length).filter λj=>!(if j=i then true else Dn c j))=((List.range ops.length).filter λj=>!Dn c j).filter λj=>decide (j≠i):=by
       rw [HK];congr 1;funext j;by_cases k:j=i<;>simp [k]
      rw [y];refine AU.2 ⟨i,by simp [g,m],by simp⟩
     omega
  unfold wpOp;have G:ops.toArray[i]?=some o:=by simpa using f
  rw [G];simp only;split
  ·rename_i q;rw [ae q] at E;exact .inl E
  ·rename_i q;rw [ab q] at E;exact E
theorem QJ {lim kk:Nat} (E:lim<ops.length) (g:∀j,kk<=j->j<lim->live j/\Must ops j lim) (y:∀j,lim<j->j<ops.length->Must ops lim j) {ι0:Inj} {w0:Base} {Q:Exit->Act->World->Prop}
  (X:∀(fuel:Nat) (c:Array Bool) (ι:Inj) (a:Act) (w:World),c.size=ops.length->(∀j,j<lim->Dn c j=true)->Dn c lim=false->Down ops (Dn c)->Down ops (Dn (c.setIfInBounds lim true))->
   Inv n ι0 w0 ι (appD 0 recs (Dn c) s0) a w->((List.range ops.length).filter λi=>!Dn c i).length<=fuel+1->wpOp P ops.toArray Q lim (wpAny P .any ops.toArray Q fuel (c.setIfInBounds lim true)) a w):
  ∀(fuel:Nat) (c:Array Bool) (ι:Inj) (a:Act) (w:World),c.size=ops.length->(∀j,j<kk->Dn c j=true)->Down ops (Dn c)->Dn c lim=false->Inv n ι0 w0 ι (appD 0 recs (Dn c) s0) a w->
   (∀i,i<ops.length->Dn c i=false->∀b,nb0+8*i<=b->b<nb0+8*i+8->ι b=none)->((List.range ops.length).filter λi=>!Dn c i).length<=fuel->
   wpAny P .any ops.toArray Q fuel c a w:=by
 have fin:∀(c:Array Bool),c.size=ops.length->Dn c lim=false->Region.ready .any ops.toArray c=[]->False:=by
  intro c hs hp v;have C:∀j,j<ops.length->Dn c j=true:=by
   intro j
   induction j using Nat.strongRecOn with
   | _ j ih=>
    intro u;cases L:Dn c j with
    | true=>rfl
    | false=>
     have f:ops[j]?=some ops[j]:=by simp [u]
     have T:=BC hs f L λe S H=>ih e.on (F.down j _ e f S H) (by have:=F.down j _ e f S H;omega);rw [v] at T;cases T
  rw [C lim E] at hp;cases hp
 intro fuel
 induction fuel with
 | zero=>
  intro c ι a w hs m l hp O z hc;have:lim∈(List.range ops.length).filter λi=>!Dn c i:=by simp [E,hp]
  have:=F6 this;omega
 | succ fuel ih=>
  intro c ι a w hs m l hp O z hc;refine ⟨λv=>(fin c hs hp v).elim,λi hi=>?_⟩;obtain ⟨o,f,x,s,A⟩:=tY hs hi;obtain ⟨r,v⟩:=xP F f;have d:Dn (c.setIfInBounds i true)=λj=>if j=i then true else Dn c j:=by
   funext j;exact Am (by omega) j
  by_cases D:i=lim
  ·subst D;refine X fuel c ι a w hs (λj u=>?_) s l (by rw [d];exact l.add f A) O hc;rcases aI j kk with h | h
   ·exact m j h
   ·exact (g j h u).2.in l f A (by omega)
  have J:ops.toArray[i]?=some o:=by simpa using f
  unfold wpOp;rw [J];simp only;have hlt':i<lim:=by
   rcases aI i lim with h | h
   ·exact h
   ·have:=(y i (by omega) x).in l f A (λe=>D e.symm);rw [hp] at this;cases this
  have R:kk<=i:=by
   rcases aI i kk with h | h
   ·have:=m i h;rw [s] at this;cases this
   ·exact h
  have G:=(F.loc i o r f v).2 (g i R hlt').1
  have I:=G (appD 0 recs (Dn c) s0) (λt V=>BS F l f s A V) (λb H=>AW F l f v s A H) (by rw [lT,lT]) (by rw [jy,jy]) ι0 w0 ι a w O (z i x s)
   (wpAny P .any ops.toArray Q fuel (c.setIfInBounds i true)) Q λK Y w' W U=>by
    refine ih _ K Y w' (by simpa using hs) (λj u=>by rw [d];simp only;split;(· rfl);exact m j u) (by rw [d];exact l.add f A) (by rw [d];simp only [show ¬lim=i by omega,aG];exact hp) (by rw [d];exact U.eqv (Cb F l f v s)) (λj u p b N M=>?_) ?_
    ·rw [d] at p;by_cases k:j=i
     ·simp [k] at p
     ·simp only [k,aG] at p;rw [W b (by omega)];exact z j u p b N M
    ·have:((List.range ops.length).filter λj=>!Dn (c.setIfInBounds i true) j).length<((List.range ops.length).filter λj=>!Dn c j).length:=by
      rw [d];have B:((List.range ops.length).filter λj=>!(if j=i then true else Dn c j))=((List.range ops.length).filter λj=>!Dn c j).filter λj=>decide (j≠i):=by
       rw [HK];congr 1;funext j;by_cases k:j=i<;>simp [k]
      rw [B];refine AU.2 ⟨i,by simp [x,s],by simp⟩
     omega
  split
  ·rename_i q;rw [ae q] at I;exact .inl I
  ·rename_i q;rw [ab q] at I;exact I
theorem OV {lim:Nat} {ι0:Inj} {w0:Base} {Q:Exit->Act->World->Prop} {U:Oper} {pr:Rec} {v:V} {wr:List (Nat×Blk)} (g:ops[lim]?=some U) (K:recs[lim]?=some pr)
  (R:zG P n nb0 ops lim U v wr pr.rd (appD 0 recs (λm=>decide (m<lim)) s0))
  (C:∀j,j<ops.length->j≠lim->live j\/Must ops lim j)
  (hQ:∀D,Down ops D->(∀e∈U.after.toList,Region.binds .any e=true->D e.on=true)->D lim=false->∀ι x a w,VR ι v x->Inv n ι0 w0 ι ((appD 0 recs D s0).app none none wr s0.nb) a w->Q (.panic [{ v:=x,recovered:=false }]) a w):
  ∀(fuel:Nat) (c:Array Bool) (ι:Inj) (a:Act) (w:World),c.size=ops.length->Down ops (Dn c)->Dn c lim=false->Inv n ι0 w0 ι (appD 0 recs (Dn c) s0) a w->
   (∀i,i<ops.length->Dn c i=false->∀b,nb0+8*i<=b->b<nb0+8*i+8->ι b=none)->((List.range ops.length).filter λi=>!Dn c i).length<=fuel->
   wpAny P .any ops.toArray Q fuel c a w:=by
 have I:lim<ops.length:=by
  rcases aI lim ops.length with h' | h'
  ·exact h'
  ·rw [fV h'] at g;cases g
 have fin:∀(c:Array Bool),c.size=ops.length->Dn c lim=false->Region.ready .any ops.toArray c=[]->False:=by
  intro c hs hp q;have H:∀j,j<ops.length->Dn c j=true:=by
   intro j
   induction j using Nat.strongRecOn with
   | _ j ih=>
    intro hj;cases T:Dn c j with
    | true=>rfl
    | false=>
     have f:ops[j]?=some ops[j]:=by simp [hj]
     have N:=BC hs f T λe he E=>ih e.on (F.down j _ e f he E) (by have:=F.down j _ e f he E;omega);rw [q] at N;cases N
  rw [H lim I] at hp;cases hp
 intro fuel
 induction fuel with
 | zero=>
  intro c ι a w hs k hp hI u hc;have:lim∈(List.range ops.length).filter λi=>!Dn c i:=by simp [I,hp]
  have:=F6 this;omega
 | succ fuel ih=>
  intro c ι a w hs k hp hI u hc;refine ⟨λq=>(fin c hs hp q).elim,λi hi=>?_⟩;obtain ⟨o,f,s,p,A⟩:=tY hs hi;obtain ⟨r,q⟩:=xP F f;have O:ops.toArray[i]?=some o:=by simpa using f
  unfold wpOp;rw [O];simp only;by_cases B:i=lim
  case neg=>
   rcases C i s B with S | N
   case inr=>
    have:=N.in k f A (λe=>B e.symm);rw [hp] at this;cases this
   have J:=(F.loc i o r f q).2 S;have d:Dn (c.setIfInBounds i true)=λj=>if j=i then true else Dn c j:=by
    funext j;exact Am (by omega) j
   have M:=J (appD 0 recs (Dn c) s0) (λt W=>BS F k f p A W) (λb E=>AW F k f q p A E) (by rw [lT,lT]) (by rw [jy,jy]) ι0 w0 ι a w hI (u i s p)
    (wpAny P .any ops.toArray Q fuel (c.setIfInBounds i true)) Q λy a' w' Y L=>by
     refine ih _ y a' w' (by simpa using hs) (by rw [d];exact k.add f A) (by rw [d];simp only [show ¬lim=i by omega,aG];exact hp) (by rw [d];exact L.eqv (Cb F k f q p)) (λj hj l b Z X=>?_) ?_
     ·rw [d] at l;by_cases h:j=i
      ·simp [h] at l
      ·simp only [h,aG] at l;rw [Y b (by omega)];exact u j hj l b Z X
     ·have:((List.range ops.length).filter λj=>!Dn (c.setIfInBounds i true) j).length<((List.range ops.length).filter λj=>!Dn c j).length:=by
       rw [d];have G:((List.range ops.length).filter λj=>!(if j=i then true else Dn c j))=((List.range ops.length).filter λj=>!Dn c j).filter λj=>decide (j≠i):=by
        rw [HK];congr 1;funext j;by_cases h:j=i<;>simp [h]
       rw [G];refine AU.2 ⟨i,by simp [s,p],by simp⟩
      omega
   split
   ·rename_i z;rw [ae z] at M;exact .inl M
   ·rename_i z;rw [ab z] at M;exact M
  case pos=>
   subst B;rw [g] at f;cases f;rw [K] at q;cases q
   obtain ⟨q1,q2⟩:=R (appD 0 recs (Dn c) s0) (λt W=>BS F k g p A W) (λb E=>AW F k g K p A E) (by rw [lT,lT]) (by rw [jy,jy]) ι0 w0 ι a w hI (u i s p)
    (wpAny P .any ops.toArray Q fuel (c.setIfInBounds i true)) Q λy x w' Y L=>hQ _ k A p y x a w' Y (by rw [lT] at L;exact L)
   rw [ae q1];exact .inl q2
end
theorem Dp:∀{l:List Nat} {j:Nat},l.length<=j->getN l j=0
 | [],_,_=>rfl
 | _::_,0,h=>by simp at h
 | _::l,j+1,h=>Dp (l:=l) (by simpa using h)
theorem sO:∀{l m:List Nat} {j:Nat},j<l.length->getN (l++m) j=getN l j
 | [],_,_,h=>by simp at h
 | _::_,_,0,_=>rfl
 | _::l,m,j+1,h=>sO (l:=l) (m:=m) (by simpa using h)
theorem sS:∀(l:List Nat) (x:Nat),getN (l++[x]) l.length=x
 | [],_=>rfl
 | _::l,x=>sS l x
theorem tM (acc:List Nat):∀(l:List Edge) (s i:Nat),(Ez acc l s).testBit i=true->s.testBit i=true\/∃e∈l,Region.binds .any e=true/\(e.on=i\/(getN acc e.on).testBit i=true)
 | [],s,i,h=>.inl h
 | e::l,s,i,h=>by
  simp only [Ez] at h;split at h
  ·rename_i f;rcases tM acc l _ i h with a | ⟨d,b,c⟩
   ·simp only [Nat.testBit_or,gX] at a;rcases a with (a | a) | a
    ·exact .inl a
    ·refine .inr ⟨e,by simp,f,.inl ?_⟩;rw [Nat.testBit_two_pow] at a;simpa using a
    ·exact .inr ⟨e,by simp,f,.inr a⟩
   ·exact .inr ⟨d,fN _ b,c⟩
  ·rcases tM acc l _ i h with a | ⟨d,b,c⟩
   ·exact .inl a
   ·exact .inr ⟨d,fN _ b,c⟩
theorem qz (ops:List Oper):∀(r:List Oper) (acc:List Nat),(∀j,r[j]?=ops[acc.length+j]?)->(∀j i,(getN acc j).testBit i=true->Must ops i j)->
  ∀j i,(getN (lh r acc) j).testBit i=true->Must ops i j
 | [],acc,_,h=>h
 | o::r,acc,l,h=>by
  simp only [lh];refine qz ops r _ (λj=>by have:=l (j+1);simp only [HI] at this;rw [this];simp;congr 1;omega) λj i a=>?_;rcases Fp j acc.length with f | c | q
  ·rw [sO f] at a;exact h j i a
  ·subst c;rw [sS] at a;have p:ops[acc.length]?=some o:=by have:=l 0;simpa using this.symm
   rcases tM acc _ _ _ a with b | ⟨e,n,d,b⟩
   ·simp at b
   ·intro D m g;have k:=m acc.length o e p g n d;rcases b with rfl | b
    ·exact k
    ·exact h e.on i b D m k
  ·rw [Dp (by simp;omega)] at a;simp at a
theorem jW:∀(l:List Oper) (i:Nat),rx i l=true->∀(j:Nat) (o:Oper) (e:Edge),l[j]?=some o->e∈o.after.toList->Region.binds .any e=true->e.on<i+j
 | [],_,_,_,_,_,h,_,_=>by simp at h
 | o::l,i,h,j,d,e,a,c,b=>by
  simp only [rx,aD,bW] at h;cases j with
  | zero=>
   simp only [lC,aw] at a;subst a;have:=h.1 e c;simp only [b,dn,oh] at this;exact aN this
  | succ j=>have:=jW l (i+1) h.2 j d e (by simpa using a) c b;omega
theorem sW {ops:Array Oper} {o:Oper} {a:Nat}:∀(l:List Oper) (i:Nat),uk ops o a i l=true->∀(j:Nat) (p:Oper),l[j]?=some p->a.testBit (i+j)=true\/p.apart ops o=true
 | [],_,_,_,_,h=>by simp at h
 | q::l,i,h,j,p,b=>by
  simp only [uk,aD,gX] at h;cases j with
  | zero=>simp only [lC,aw] at b;subst b;exact h.1
  | succ j=>have:=sW l (i+1) h.2 j p (by simpa using b);rwa [show i+1+j=i+(j+1) by omega] at this
theorem np {ops:Array Oper} {masks:List Nat}:∀(l a:List Oper),uK ops masks a.length a l=true->∀(i j:Nat) (x y:Oper),i<a.length+j->(a++l)[i]?=some x->l[j]?=some y->
  (getN masks (a.length+j)).testBit i=true\/x.apart ops y=true
 | [],_,_,_,_,_,_,_,_,h=>by simp at h
 | o::l,a,h,i,j,x,y,hi,hx,hy=>by
  simp only [uK,aD] at h;cases j with
  | zero=>
   simp only [lC,aw] at hy;subst hy;have:=sW a 0 h.1 i x (by rw [nT (by simpa using hi)] at hx;exact hx);simpa using this
  | succ j=>
   have b:=h.2;rw [show a.length+1=(a++[o]).length by simp] at b;have:=np l (a++[o]) b i j x y (by simp;omega) (by simpa using hx) (by simpa using hy);rwa [show (a++[o]).length+j=a.length+(j+1) by simp;omega] at this
theorem rL {masks:List Nat}:∀{tr:List TE},qx masks tr=true->∀x∈tr,∀y∈tr,x.i<y.i->xR masks x y=true\/xR masks y x=true
 | [],_,x,hx,_,_,_=>by cases hx
 | z::l,h,x,hx,y,hy,c=>by
  simp only [qx,aD,bW] at h;rcases cq.1 hx with b | b
  ·subst b;rcases cq.1 hy with a | a
   ·subst a;omega
   ·exact .inl (h.1 y a)
  ·rcases cq.1 hy with a | a
   ·subst a;exact .inr (h.1 x b)
   ·exact rL h.2 x b y a c
theorem yp {x y:TE} (h:Tu x y=false):(∀b∈x.ws,b∉y.rd/\b∉y.ws)/\∀b∈x.rd,b∉y.ws:=by
 simp only [Tu,ox,sP,gX,not_or,List.contains_iff_mem] at h;exact ⟨λb a=>h.1 b a,λb a=>h.2 b a⟩
theorem Ds {masks:List Nat} {x y:TE} (h:xR masks x y=true\/xR masks y x=true) (d:x.i<y.i):
  (getN masks y.i).testBit x.i=true\/((∀b∈x.ws,b∉y.rd/\b∉y.ws)/\∀b∈x.rd,b∉y.ws):=by
 have j:Nat.blt x.i y.i=true:=dm d;have f:Nat.blt y.i x.i=false:=by
  cases k:Nat.blt y.i x.i with
  | false=>rfl
  | true=>have:y.i<x.i:=aN k;omega
 rcases h with h | h
 ·simp only [xR,j,ah,gX,jP] at h;exact h.imp id yp
 ·simp only [xR,f,af,gX,jP] at h;refine h.imp id λh=>?_;obtain ⟨a,b⟩:=yp h;exact ⟨λc hc=>⟨λg=>b c g hc,λe=>(a c e).2 hc⟩,λc hc e=>(a c e).1 hc⟩
theorem vq:∀(ops:List Oper) {T:List (Nat×Option V)} (t:Nat) (v:V),look (I7 ops T) t=some (some v)->(∀o∈ops,o.dst≠some t)/\look T t=some (some v)
 | [],T,t,v,h=>⟨by simp,h⟩
 | o::l,T,t,v,h=>by
  simp only [I7] at h;split at h
  ·rename_i d b;rw [aX] at h;split at h
   ·cases h
   ·rename_i f;obtain ⟨c,a⟩:=vq l t v h;refine ⟨λx hx=>?_,a⟩;rcases cq.1 hx with rfl | hx
    ·rw [b];intro e;cases e;exact f rfl
    ·exact c x hx
  ·rename_i b;obtain ⟨c,a⟩:=vq l t v h;refine ⟨λx hx=>?_,a⟩;rcases cq.1 hx with rfl | hx
   ·rw [b];intro e;cases e
   ·exact c x hx
theorem Jc {α:Type} {E:List Ent} (hE:∀x∈E,ge P x) {n:Nat} {ops:List Oper} {s:St} {k:Ex->St->Option α} {z:α} (h:Fa P E n ops s k=some z) (id:Nat):
  SemC P n (.region id ops.toArray true) s λex s'=>k ex s'=some z:=by
 intro ι0 w0 ι a w hI;unfold Fa at h;split at h
 case h_2=>cases h
 rename_i hok;simp only [aD,Hr] at hok;obtain ⟨⟨hb1,hb2,_⟩,S⟩:=hok;have g:=qz ops ops [] (by simp) (λj i u=>by simp [getN] at u);have hI1:Inv n ι0 w0 ι { s with nb:=s.nb+8*ops.length } a { w with drawn:=w.drawn+1 }:=by
  have d:=hI.drawn (w.drawn+1);exact ⟨d.size,d.defers,d.tmps,⟨d.mem.inj,λb r u=>by have:=d.mem.low b r u;simp only;omega,d.mem.dom,d.mem.blk⟩,d.ext,d.new,d.fr,d.low,d.fz,d.gl⟩
 have K:∀i,Dn (Array.replicate ops.toArray.size false) i=false:=by
  intro i;unfold Dn;simp only [rt,Xr];split<;>rfl
 have hno:∀(l:List Rec) (i:Nat) (D:Nat->Bool) (s:St),(∀j,D j=false)->appD i l D s=s:=by
  intro l
  induction l with
  | nil=>intros;rfl
  | cons r l ih=>intro i D s hD;simp only [appD,hD i,bs,aG];exact ih _ D s hD
 have C:∀(trf:List TE) (x y:Rec) (i j:Nat),qx (lh ops []) (trf.filter λx=>!(x.rd.isEmpty&&x.ws.isEmpty))=true->i<j->((⟨0+i,x.rd,keys x.wr⟩:TE)∈trf\/(x.rd=[]/\x.wr=[]))->((⟨0+j,y.rd,keys y.wr⟩:TE)∈trf\/(y.rd=[]/\y.wr=[]))->
   Must ops i j\/((∀b∈keys x.wr,b∉y.rd/\b∉keys y.wr)/\∀b∈x.rd,b∉keys y.wr):=by
  intro trf x y i j L B hx hy;rcases hx with hxm | ⟨hx1,hx2⟩
  ·rcases hy with hym | ⟨hy1,hy2⟩
   ·simp only [cX] at hxm hym;by_cases V:(x.rd=[]/\x.wr=[])
    ·exact .inr (by simp [V.1,V.2,keys])
    ·by_cases W:(y.rd=[]/\y.wr=[])
     ·exact .inr (by simp [W.1,W.2,keys])
     ·have m1:(⟨i,x.rd,keys x.wr⟩:TE)∈trf.filter λx=>!(x.rd.isEmpty&&x.ws.isEmpty):=by
       refine lQ.2 ⟨hxm,?_⟩;simp only [keys,jP,Da,HG];rcases Ib (x.rd=[]) with h | h
       ·exact .inr (by simpa using λhw=>V ⟨h,hw⟩)
       ·exact .inl h
      have m2:(⟨j,y.rd,keys y.wr⟩:TE)∈trf.filter λx=>!(x.rd.isEmpty&&x.ws.isEmpty):=by
       refine lQ.2 ⟨hym,?_⟩;simp only [keys,jP,Da,HG];rcases Ib (y.rd=[]) with h | h
       ·exact .inr (by simpa using λhw=>W ⟨h,hw⟩)
       ·exact .inl h
      have:=Ds (rL L _ m1 _ m2 B) B;exact this.imp (g j i) λh=>h
   ·exact .inr (by simp [hy1,hy2,keys])
  ·exact .inr (by simp [hx1,hx2,keys])
 rcases Ci hE ops 0 _ [] (by simp) h with ⟨recs,O,trf,g1,R,Q,_,Z,g6⟩ | ⟨p,po,recs,O,sp,trf,v,wr,rp,g1,g0,gr,gd,gw,rfl,R,Q,_,g7,Z,g6⟩
 ·split at R
  case h_2=>cases R
  rename_i L;have F:DrawFacts P n s.nb ops recs { s with nb:=s.nb+8*ops.length } (λ_=>True):=by
   refine ⟨g1,rfl,λj o r N Y=>?_,λj o e N he u=>?_,λi j x y B hx hy=>?_,λi j x y B hx hy=>?_⟩
   ·obtain ⟨p1,p2⟩:=g6 j o r N Y;simp only [cX] at p2;have e:=rh recs 0 j { s with nb:=s.nb+8*ops.length };simp only [cX] at e;exact ⟨λt U=>p1▸U,λ_=>p2.eqv e⟩
   ·have:=jW ops 0 hb1 j o e N he u;omega
   ·have:=np (masks:=lh ops []) ops [] hb2 i j x y (by simpa using B) (by simpa using hx) hy;simp only [cG,cX] at this;exact this.imp (g j i) λh=>h
   ·exact C trf x y i j L B (Z i x hx) (Z j y hy)
  refine wp_region_any S (Ey (kk:=0) F (λ_ _ _=>trivial) (λG a' w' f=>⟨.normal,O,G,rfl,f.eqv Q.symm,R⟩) _ _ ι a _ (by simp) (λj X=>by omega) (λj o e _ I=>by rw [K j] at I;cases I) (by rw [hno recs 0 _ _ K];exact hI1) (λi _ _ b u _=>?_) ?_)
  ·exact hI.fresh b (by omega)
  ·have:=CM (λi=>!Dn (Array.replicate ops.toArray.size false) i) (List.range ops.length);simpa using this
 ·split at R
  case h_2=>cases R
  rename_i hpk;simp only [aD,VN] at hpk;obtain ⟨hw,L⟩:=hpk;simp only [cX] at R g7 hw;have B:p<ops.length:=by
   rcases aI p ops.length with h' | h'
   ·exact h'
   ·rw [fV h'] at g0;cases g0
  have A:∀i r,recs[i]?=some r->i≠p->(i<p/\Must ops i p)\/r.wr=[]:=by
   intro i r Y J;rcases Z i r Y J with hx | hx
   ·have:=(bW.1 hw) _ hx;simp only [cX,gX,aD] at this;rcases this with h | h
    ·right;simpa [keys] using h
    ·exact .inl ⟨aN h.1,g p i h.2⟩
   ·exact .inr hx.2
  have g5':∀(j:Nat) (r:Rec),recs[j]?=some r->j≠p->(⟨0+j,r.rd,keys r.wr⟩:TE)∈trf\/(r.rd=[]/\r.wr=[]):=Z;have F:DrawFacts P n s.nb ops recs { s with nb:=s.nb+8*ops.length } (λj=>j<p\/(p<j/\(getN (lh ops []) (0+j)).testBit (0+p)=false)):=by
   refine ⟨g1,rfl,λj o r N Y=>?_,λj o e N he u=>?_,λi j x y hij hx hy=>?_,λi j x y hij hx hy=>?_⟩
   ·obtain ⟨p1,p2⟩:=g6 j o r N Y;have e:=rh recs 0 j { s with nb:=s.nb+8*ops.length };simp only [cX] at e p2 ⊢;exact ⟨λt U=>p1▸U,λhc=>(p2 hc).eqv e⟩
   ·have:=jW ops 0 hb1 j o e N he u;omega
   ·have:=np (masks:=lh ops []) ops [] hb2 i j x y (by simpa using hij) (by simpa using hx) hy;simp only [cG,cX] at this;exact this.imp (g j i) λh=>h
   ·by_cases J:i=p
    ·
     subst J;rw [gr] at hx;cases hx;rcases A j y hy (by omega) with ⟨h,_⟩ | h
     ·omega
     ·exact .inr (by simp [gw,h,keys])
    ·by_cases M:j=p
     ·subst M;rw [gr] at hy;cases hy;rcases A i x hx J with ⟨_,h⟩ | h
      ·exact .inl h
      ·exact .inr (by simp [gw,h,keys])
     ·exact C trf x y i j L hij (Z i x hx J) (Z j y hy M)
  have c:Eqv ((recs.take p).foldl St.put { s with nb:=s.nb+8*ops.length }) (appD 0 recs (λm=>decide (m<p)) { s with nb:=s.nb+8*ops.length }):=by
   have e:=rh recs 0 p { s with nb:=s.nb+8*ops.length };simpa using e
  have hdead:∀j,j<ops.length->j≠p->(j<p\/(p<j/\(getN (lh ops []) (0+j)).testBit (0+p)=false))\/Must ops p j:=by
   intro j _ hne;cases u:(getN (lh ops []) (0+j)).testBit (0+p) with
   | false=>exact .inl ((Nat.lt_or_gt_of_ne hne).imp (λh=>h) λh=>⟨h,rfl⟩)
   | true=>simp only [cX] at u;exact .inr (g j p u)
  refine wp_region_any S (OV F g0 gr (g7.eqv c) hdead (λD hD hd hn G x a' w' hv f=>⟨.pan v,_,G,⟨x,rfl,hv⟩,?inv,R⟩) _ _ ι a _ (by simp) (λj o e _ I=>by rw [K j] at I;cases I) (K p) (by rw [hno _ 0 _ _ K];exact hI1) (λi _ _ b u _=>?fresh) ?len)
  case inv=>
   have hH:∀b,look O.H b=look (appD 0 recs D { s with nb:=s.nb+8*ops.length }).H b:=by
    intro b;rw [Q.H,c.H,xi,xi];refine qt _ 0 _ _ b _ λj r X u=>?_;simp only [cX];by_cases M:j=p
    ·subst M;rw [gr] at X;cases X;rw [gw] at u;simp [keys] at u
    ·rcases A j r X M with ⟨d,hm⟩ | hm
     ·rw [hm.in hD g0 hd (by omega)];simp [d]
     ·rw [hm] at u;simp [keys] at u
   have hT:∀t v,look (I7 ops s.T) t=some (some v)->look (appD 0 recs D { s with nb:=s.nb+8*ops.length }).T t=some (some v):=by
    intro t v U;obtain ⟨d,h2⟩:=vq ops t v U;rw [zx,zI _ 0 D t _ λj r X Y=>?_]
    ·exact h2
    ·exfalso;obtain ⟨o,N⟩:=xM F X;exact d o (eW N) ((F.loc j o r N X).1 t Y)
   refine ⟨f.size,f.defers,λt v U=>f.tmps t v (hT t v U),⟨f.mem.inj,λb r u=>?_,f.mem.dom,λb blk hl hdd=>f.mem.blk b blk ?_ hdd⟩,?_,f.new,?_,λb r u=>?_,?_,?_⟩
   ·have:=f.mem.low b r u;have e:=Q.nb.trans c.nb;rw [lT] at e;show b<O.nb;rw [e];exact this
   ·show look (wr++(appD 0 recs D { s with nb:=s.nb+8*ops.length }).H) b=_;rw [qb,<-hH b,<-qb];exact hl
   ·have e:=Q.rb.trans c.rb;rw [yu] at e;have d:=f.ext;show ∀b q,ι0 b=some q->G b=some q\/O.rb<=b;rw [e];simp only [St.app,yu] at d;exact d
   ·have e:=Q.ro.trans c.ro;rw [jy] at e;have d:=f.fr;show Fr (roI ι0 O.ro) w0.w w';rw [e];simp only [St.app,jy] at d;exact d
   ·have e:=Q.lo.trans c.lo;rw [yd] at e;have d:=f.low b r u;show b<O.lo;rw [e];simp only [St.app,yd] at d;exact d
   ·have e:=Q.ro.trans c.ro;rw [jy] at e;have d:=f.fz;show ∀b q,G b=some (some q)->q.fz=true->b<O.ro;rw [e];simp only [St.app,jy] at d;exact d
   ·have e:=Q.ro.trans c.ro;rw [jy] at e;have d:=f.gl;show GL (roI ι0 O.ro) w0.w;rw [e];simp only [St.app,jy] at d;exact d
  case fresh=>exact hI.fresh b (by omega)
  case len=>
   have:=CM (λi=>!Dn (Array.replicate ops.toArray.size false) i) (List.range ops.length);simpa using this
end Go.Abs
