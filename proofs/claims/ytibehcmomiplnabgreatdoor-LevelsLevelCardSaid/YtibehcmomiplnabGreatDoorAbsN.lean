
import Derived.Test.YtibehcmomiplnabGreatDoorAbsM
set_option linter.unusedSimpArgs false
set_option linter.unusedVariables false
set_option linter.defProp false
namespace Go.Abs
variable {P:Program}
structure Rec where
 dst:Option Nat
 val:Option V
 wr:List (Nat×Blk)
 rd:List Nat
def St.put(s:St)(r:Rec):St:=s.app r.dst r.val r.wr s.nb
def keys(wr:List (Nat×Blk)):List Nat:=wr.map (·.1)
def sd{α:Type}(l m:List (Nat×α))(n:Nat):look (l++m) n=(look l n).or (look m n):=by
 induction l with
 | nil=>rfl
 | cons x l ih=>
  obtain⟨k,v⟩:=x;rw[fK,bh,bh];split
  ·rfl
  ·exact ih
def tU{α:Type}{l:List (Nat×α)}{n:Nat}(h:n∉l.map (·.1)):look l n=none:=by
 induction l with
 | nil=>rfl
 | cons x l ih=>
  obtain⟨k,v⟩:=x;simp only[gW,ck,not_or]at h;rw[bh,ab (λe=>h.1 e.symm)];exact ih h.2
def uQ{α:Type}{l:List (Nat×α)}{n:Nat}(h:n∈l.map (·.1)):∃v,look l n=some v:=by
 induction l with
 | nil=>simp at h
 | cons x l ih=>
  obtain⟨k,v⟩:=x;rw[bh];split
  ·exact⟨v,rfl⟩
  ·rename_i a;simp only[gW,ck]at h;exact ih (h.resolve_left λe=>a e.symm)
def Td(s:St)(r:Rec)(t:Nat):look (s.put r).T t=if r.dst=some t then some r.val else look s.T t:=by
 unfold St.put St.app;cases a:r.dst with
 | none=>simp
 | some d=>
  simp only[bh];by_cases h:d=t
  ·subst h;simp
  ·simp[h]
def Tc(s:St)(r:Rec)(b:Nat):look (s.put r).H b=(look r.wr b).or (look s.H b):=sd _ _ _
def YL(s:St)(r:Rec):(s.put r).nb=s.nb:=rfl
structure Eqv(s s':St):Prop where
 T:∀t,look s.T t=look s'.T t
 H:∀b,look s.H b=look s'.H b
 nb:s.nb=s'.nb
 lo:s.lo=s'.lo
 ro:s.ro=s'.ro
 rb:s.rb=s'.rb
def Eqv.refl(s:St):Eqv s s:=⟨λ_=>rfl,λ_=>rfl,rfl,rfl,rfl,rfl⟩
def Eqv.symm{s s':St}(h:Eqv s s'):Eqv s' s:=⟨λt=>(h.T t).symm,λb=>(h.H b).symm,h.nb.symm,h.lo.symm,h.ro.symm,h.rb.symm⟩
def Eqv.trans{a b c:St}(h:Eqv a b)(k:Eqv b c):Eqv a c:=⟨λt=>(h.T t).trans (k.T t),λt=>(h.H t).trans (k.H t),h.nb.trans k.nb,h.lo.trans k.lo,h.ro.trans k.ro,h.rb.trans k.rb⟩
def Eqv.put{s s':St}(h:Eqv s s')(r:Rec):Eqv (s.put r) (s'.put r):=
 ⟨λt=>by rw[Td,Td,h.T],λb=>by rw[Tc,Tc,h.H],h.nb,h.lo,h.ro,h.rb⟩
def Eqv.puts:∀(l:List Rec) {s s':St},Eqv s s'->Eqv (l.foldl St.put s) (l.foldl St.put s')
 | [],_,_,h=>h
 | r::l,_,_,h=>Eqv.puts l (h.put r)
def Inv.eqv{n:Nat}{ι0 ι:Inj}{w0:Base}{s s':St}{a:Act}{w:World}(h:Inv n ι0 w0 ι s a w)(e:Eqv s s'):Inv n ι0 w0 ι s' a w:=
 ⟨h.size,h.defers,λt v F=>h.tmps t v (by rw[e.T];exact F),⟨h.mem.inj,λb r C=>by rw[<-e.nb];exact h.mem.low b r C,h.mem.dom,λb blk E G=>h.mem.blk b blk (by rw[e.H];exact E) G⟩,by rw[<-e.rb];exact h.ext,h.new,by rw[<-e.ro];exact h.fr,λb r C=>by rw[<-e.lo];exact h.low b r C,by rw[<-e.ro];exact h.fz,by rw[<-e.ro];exact h.gl⟩
def appD:Nat->List Rec->(Nat->Bool)->St->St
 | _,[],_,s=>s
 | i,r::l,D,s=>appD (i+1) l D (if D i=true then s.put r else s)
def Bc:Nat->List Rec->(Nat->Bool)->Nat->Option (Option V)->Option (Option V)
 | _,[],_,_,x=>x
 | i,r::l,D,t,x=>Bc (i+1) l D t (if D i=true/\r.dst=some t then some r.val else x)
def zZ:Nat->List Rec->(Nat->Bool)->Nat->Option Blk->Option Blk
 | _,[],_,_,x=>x
 | i,r::l,D,b,x=>zZ (i+1) l D b (if D i=true then(look r.wr b).or x else x)
def CE:∀(l:List Rec) (i:Nat) (D:Nat->Bool) (s:St) (t:Nat),look (appD i l D s).T t=Bc i l D t (look s.T t)
 | [],_,_,_,_=>rfl
 | r::l,i,D,s,t=>by
  simp only[appD,Bc,CE l];congr 1;cases D i
  ·simp
  ·simp only[lL,aS];rw[Td]
def zJ:∀(l:List Rec) (i:Nat) (D:Nat->Bool) (s:St) (b:Nat),look (appD i l D s).H b=zZ i l D b (look s.H b)
 | [],_,_,_,_=>rfl
 | r::l,i,D,s,b=>by
  simp only[appD,zZ,zJ l];congr 1;cases D i
  ·simp
  ·simp only[aS];rw[Tc]
def mZ:∀(l:List Rec) (i:Nat) (D:Nat->Bool) (s:St),(appD i l D s).nb=s.nb
 | [],_,_,_=>rfl
 | r::l,i,D,s=>by
  simp only[appD,mZ l];split<;>rfl
def kI:∀(l:List Rec) (i:Nat) (D:Nat->Bool) (s:St),(appD i l D s).ro=s.ro
 | [],_,_,_=>rfl
 | r::l,i,D,s=>by
  simp only[appD,kI l];split<;>rfl
def AA:∀(l:List Rec) (i:Nat) (D:Nat->Bool) (s:St),(appD i l D s).lo=s.lo
 | [],_,_,_=>rfl
 | r::l,i,D,s=>by
  simp only[appD,AA l];split<;>rfl
def zU:∀(l:List Rec) (i:Nat) (D:Nat->Bool) (s:St),(appD i l D s).rb=s.rb
 | [],_,_,_=>rfl
 | r::l,i,D,s=>by
  simp only[appD,zU l];split<;>rfl
def vN:∀(l:List Rec) (i:Nat) (D a:Nat->Bool) (t:Nat) (x:Option (Option V)),(∀j r,l[j]?=some r->r.dst=some t->D (i+j)=a (i+j))->Bc i l D t x=Bc i l a t x
 | [],_,_,_,_,_,_=>rfl
 | r::l,i,D,a,t,x,h=>by
  simp only[Bc];have b:=h 0 r (by simp);simp only[dj]at b;rw[vN l (i+1) D a t _ λj d e f=>by have:=h (j+1) d (by simpa using e) f;rwa[show i+(j+1)=i+1+j by omega]at this];congr 1;by_cases c:r.dst=some t
  ·rw[b c]
  ·simp[c]
def C5(l:List Rec)(i:Nat)(D:Nat->Bool)(t:Nat)(x:Option (Option V))(h:∀j r,l[j]?=some r->r.dst=some t->D (i+j)=false):Bc i l D t x=x:=by
 induction l generalizing i x with
 | nil=>rfl
 | cons r l ih=>
  simp only[Bc];have a:=h 0 r (by simp);simp only[dj]at a;have:¬(D i=true/\r.dst=some t):=λ⟨b,f⟩=>by rw[a f]at b;cases b
  rw[ab this];exact ih (i+1) x λj c d e=>by have:=h (j+1) c (by simpa using d) e;rwa[show i+(j+1)=i+1+j by omega]at this
def Le:∀(l:List Rec) (i j:Nat) (D:Nat->Bool) (t:Nat) (x:Option (Option V)) (r:Rec),l[j]?=some r->D (i+j)=true->r.dst=some t->
  (∀k b,j<k->l[k]?=some b->b.dst=some t->D (i+k)=false)->Bc i l D t x=some r.val
 | [],_,_,_,_,_,_,h,_,_,_=>by simp at h
 | r0::l,i,0,D,t,x,r,h,c,e,a=>by
  simp only[mV,aw]at h;subst h;simp only[dj]at c;simp only[Bc];rw[ae ⟨c,e⟩];exact C5 l (i+1) D t _ λk b f d=>by have:=a (k+1) b (by omega) (by simpa using f) d;rwa[show i+(k+1)=i+1+k by omega]at this
 | r0::l,i,j+1,D,t,x,r,h,c,e,a=>by
  simp only[Bc]
  exact Le l (i+1) j D t _ r (by simpa using h) (by rwa[show i+1+j=i+(j+1)by omega]) e λk b f g d=>by
   have:=a (k+1) b (by omega) (by simpa using g) d;rwa[show i+(k+1)=i+1+k by omega]at this
def so:∀(l:List Rec) (i:Nat) (D a:Nat->Bool) (b:Nat) (x:Option Blk),(∀j r,l[j]?=some r->b∈keys r.wr->D (i+j)=a (i+j))->zZ i l D b x=zZ i l a b x
 | [],_,_,_,_,_,_=>rfl
 | r::l,i,D,a,b,x,h=>by
  simp only[zZ];have c:=h 0 r (by simp);simp only[dj]at c;rw[so l (i+1) D a b _ λj e g f=>by have:=h (j+1) e (by simpa using g) f;rwa[show i+(j+1)=i+1+j by omega]at this];congr 1;by_cases d:b∈keys r.wr
  ·rw[c d]
  ·simp[tU d]
def MI(l:List Rec)(i:Nat)(D:Nat->Bool)(b:Nat)(x:Option Blk)(h:∀j r,l[j]?=some r->b∈keys r.wr->D (i+j)=false):zZ i l D b x=x:=by
 induction l generalizing i x with
 | nil=>rfl
 | cons r l ih=>
  simp only[zZ];have a:=h 0 r (by simp);simp only[dj]at a;have:(if D i=true then(look r.wr b).or x else x)=x:=by
   by_cases c:b∈keys r.wr
   ·rw[a c];simp
   ·rw[tU c];simp
  rw[this];exact ih (i+1) x λj d e f=>by have:=h (j+1) d (by simpa using e) f;rwa[show i+(j+1)=i+1+j by omega]at this
def LM:∀(l:List Rec) (i j:Nat) (D:Nat->Bool) (b:Nat) (x:Option Blk) (r:Rec),l[j]?=some r->D (i+j)=true->b∈keys r.wr->
  (∀k c,j<k->l[k]?=some c->b∈keys c.wr->D (i+k)=false)->zZ i l D b x=look r.wr b
 | [],_,_,_,_,_,_,h,_,_,_=>by simp at h
 | r0::l,i,0,D,b,x,r,h,d,f,a=>by
  simp only[mV,aw]at h;subst h;simp only[dj]at d;simp only[zZ];obtain⟨v,n⟩:=uQ f;rw[ae d,n];exact MI l (i+1) D b _ λk c g e=>by have:=a (k+1) c (by omega) (by simpa using g) e;rwa[show i+(k+1)=i+1+k by omega]at this
 | r0::l,i,j+1,D,b,x,r,h,d,f,a=>by
  simp only[zZ]
  exact LM l (i+1) j D b _ r (by simpa using h) (by rwa[show i+1+j=i+(j+1)by omega]) f λk c g m e=>by
   have:=a (k+1) c (by omega) (by simpa using m) e;rwa[show i+(k+1)=i+1+k by omega]at this
def uc:∀(l:List Rec) (i j:Nat) (s:St),Eqv ((l.take j).foldl St.put s) (appD i l (λm=>decide (m<i+j)) s)
 | [],i,j,s=>by simp[appD];exact Eqv.refl s
 | r::l,i,0,s=>by
  have:∀(l:List Rec) (i a:Nat) (s:St),i<=a->appD a l (λm=>decide (m<i)) s=s:=by
   intro l
   induction l with
   | nil=>intros;rfl
   | cons r l ih=>intro i a s h;simp only[appD,show¬a<i by omega,pM,bI,aF];exact ih i (a+1) s (by omega)
  simp only[oq,JY,dj];rw[this (r::l) i i s (bi _)];exact Eqv.refl s
 | r::l,i,j+1,s=>by
  simp only[ox,xW,appD,show i<i+(j+1)by omega,qV,aS];have:=uc l (i+1) j (s.put r);rwa[show(λm=>decide (m<i+1+j))=λm=>decide (m<i+(j+1))by funext m;simp only[jr];omega]at this
def DN:∀(l:List Rec) (i:Nat) (D:Nat->Bool) (s:St),(∀j,j<l.length->D (i+j)=true)->appD i l D s=l.foldl St.put s
 | [],_,_,_,_=>rfl
 | r::l,i,D,s,h=>by
  have a:=h 0 (by simp);simp only[dj]at a;simp only[appD,a,aS,xW];exact DN l (i+1) D _ λj b=>by have:=h (j+1) (by simpa using b);rwa[show i+(j+1)=i+1+j by omega]at this
def xk(P:Program)(n nb0:Nat)(ops:List Oper)(i:Nat)(o:Oper)(r:Rec)(base:St):Prop:=
 ∀s':St,(∀t∈o.looksAt ops.toArray,look s'.T t=look base.T t)->(∀b∈r.rd,look s'.H b=look base.H b)->s'.nb=base.nb->s'.ro=base.ro->
  ∀(ι0:Inj) (w0:Base) (ι:Inj) (a:Act) (w:World),Inv n ι0 w0 ι s' a w->(∀b,nb0+8*i<=b->b<nb0+8*i+8->ι b=none)->∀(K:Act->World->Prop) (Q:Exit->Act->World->Prop),
   (∀c d w',(∀b,(b<nb0+8*i\/nb0+8*i+8<=b)->c b=ι b)->Inv n ι0 w0 c (s'.put r) d w'->K d w')->
   if Region.wanted o (yielded ops.toArray a.tmps)then o.wp P a w K Q else K (a.put o.dst undef) w
def B9(P:Program)(n nb0:Nat)(ops:List Oper)(i:Nat)(o:Oper)(v:V)(wr:List (Nat×Blk))(rd:List Nat)(base:St):Prop:=
 ∀s':St,(∀t∈o.looksAt ops.toArray,look s'.T t=look base.T t)->(∀b∈rd,look s'.H b=look base.H b)->s'.nb=base.nb->s'.ro=base.ro->
  ∀(ι0:Inj) (w0:Base) (ι:Inj) (a:Act) (w:World),Inv n ι0 w0 ι s' a w->(∀b,nb0+8*i<=b->b<nb0+8*i+8->ι b=none)->∀(K:Act->World->Prop) (Q:Exit->Act->World->Prop),
   (∀c x w',VR c v x->Inv n ι0 w0 c (s'.app none none wr s'.nb) a w'->Q (.panic [{ v:=x,recovered:=false }]) a w')->
   Region.wanted o (yielded ops.toArray a.tmps)=true/\o.wp P a w K Q
def B9.eqv{n nb0:Nat}{ops:List Oper}{i:Nat}{o:Oper}{v:V}{wr:List (Nat×Blk)}{rd:List Nat}{base C:St}(h:B9 P n nb0 ops i o v wr rd base)(e:Eqv base C):B9 P n nb0 ops i o v wr rd C:=
 λs' O Q F E=>h s' (λt J=>by rw[O t J,e.T]) (λb G=>by rw[Q b G,e.H]) (by rw[F,e.nb]) (by rw[E,e.ro])
def xk.eqv{n nb0:Nat}{ops:List Oper}{i:Nat}{o:Oper}{r:Rec}{base C:St}(h:xk P n nb0 ops i o r base)(e:Eqv base C):xk P n nb0 ops i o r C:=
 λs' O Q F E=>h s' (λt J=>by rw[O t J,e.T]) (λb G=>by rw[Q b G,e.H]) (by rw[F,e.nb]) (by rw[E,e.ro])
def CZ{α:Type}{ops:List Oper}{o:Oper}{s:St}{k:Bool->St->Option α}{z:α}(h:zN ops o s k=some z):
  ∃c r,k c r=some z/\Eqv r s/\∀s':St,(∀t∈o.looksAt ops.toArray,look s'.T t=look s.T t)->∀(n:Nat) (ι0 ι:Inj) (w0:Base) (a:Act) (w:World),Inv n ι0 w0 ι s' a w->
   Region.wanted o (yielded ops.toArray a.tmps)=c:=by
 unfold zN at h;split at h
 ·rename_i l;exact⟨true,s,h,Eqv.refl s,λ_ _ _ _ _ _ _ _ _=>by simp[Region.wanted,l]⟩
 ·rename_i j c l;split at h
  case h_2=>cases h
  rename_i d i;have f:d∈o.looksAt ops.toArray:=by
   unfold Oper.looksAt;unfold gtmp at i;split at i
   ·rename_i u q;simp[l,q,i]
   ·cases i
  have again:∀x,look s.T d=some (some (.b x))->Eqv { s with T:=(d,some (V.b x))::s.T } s:=by
   intro x hx;refine⟨λt=>?_,λ_=>rfl,rfl,rfl,rfl,rfl⟩;show look ((d,some (V.b x))::s.T) t=look s.T t;rw[bh];split
   ·rename_i e;subst e;exact hx.symm
   ·rfl
  split at h
  ·rename_i x hx;cases x
   ·refine⟨!c,_,h,again _ hx,λs' hs n ι0 ι w0 a w m=>?_⟩;obtain⟨y,p,g⟩:=m.tmps d _ (by rw[hs d f];exact hx);simp only[VR]at g;subst g;have hy:=uL i a.tmps;rw[p]at hy;cases c<;>simp[Region.wanted,l,hy]
   ·refine⟨c,_,h,again _ hx,λs' hs n ι0 ι w0 a w m=>?_⟩;obtain⟨y,p,g⟩:=m.tmps d _ (by rw[hs d f];exact hx);simp only[VR]at g;subst g;have hy:=uL i a.tmps;rw[p]at hy;cases c<;>simp[Region.wanted,l,hy]
  ·rename_i hx;refine⟨false,s,h,Eqv.refl s,λs' hs n ι0 ι w0 a w m=>?_⟩;obtain⟨y,p,g⟩:=m.tmps d _ (by rw[hs d f];exact hx);simp only[VR]at g;obtain⟨v,rfl,_⟩:=g;have hy:=uL i a.tmps;rw[p]at hy;simp[Region.wanted,l,hy]
  ·cases h
def zO{ops:Array Oper}{o:Oper}{s s':St}(h:∀t∈o.looksAt ops,look s'.T t=look s.T t):∀x∈o.op.operands.toList,opd s'.T x=opd s.T x:=by
 intro x hx;cases x with
 | tmp t=>
  have:=h t (by
   unfold Oper.looksAt;simp only[md,List.mem_filterMap];exact .inl ⟨.tmp t,hx,rfl⟩)
  simp only[opd,this]
 | _=>rfl
def Rm{α:Type}{E:List Ent}(X:∀x∈E,gV P x){n nb0:Nat}{ops:List Oper}{masks:List Nat}{p:Nat}{k:List TE->Option α}{z:α}:∀(l:List Oper) (i:Nat) (s:St) (tr:List TE),
  nb0+8*(i+l.length)<=s.nb->runB P E n nb0 ops masks p i l s tr k=some z->
  ∃(recs:List Rec) (trf:List TE),recs.length=l.length/\k trf=some z/\(∀x∈tr,x∈trf)/\
   (∀j r,recs[j]?=some r->(⟨i+j,r.rd,keys r.wr⟩:TE)∈trf\/(r.rd=[]/\r.wr=[]))/\
   ∀(j:Nat) (o:Oper) (r:Rec),l[j]?=some o->recs[j]?=some r->r.dst=o.dst/\((getN masks (i+j)).testBit p=false->xk P n nb0 ops (i+j) o r ((recs.take j).foldl St.put s))
 | [],i,s,tr,C,h=>⟨[],tr,rfl,h,λ_ h=>h,λj r h=>by simp at h,λj o r h=>by simp at h⟩
 | o::l,i,s,tr,C,h=>by
  simp only[aI]at C;simp only[runB]at h;have more:∀(e:Rec) (c:List TE) (G:St),e.dst=o.dst->((getN masks i).testBit p=false->xk P n nb0 ops i o e s)->Eqv G (s.put e)->s.nb<=G.nb->(∀x∈tr,x∈c)->((⟨i,e.rd,keys e.wr⟩:TE)∈c\/(e.rd=[]/\e.wr=[]))->
    runB P E n nb0 ops masks p (i+1) l G c k=some z->∃(recs:List Rec) (trf:List TE),recs.length=(o::l).length/\k trf=some z/\(∀x∈tr,x∈trf)/\
   (∀j r,recs[j]?=some r->(⟨i+j,r.rd,keys r.wr⟩:TE)∈trf\/(r.rd=[]/\r.wr=[]))/\
   ∀(j:Nat) (D:Oper) (r:Rec),(o::l)[j]?=some D->recs[j]?=some r->r.dst=D.dst/\((getN masks (i+j)).testBit p=false->xk P n nb0 ops (i+j) D r ((recs.take j).foldl St.put s)):=by
   intro e c G U hl e2 Y N O h;obtain⟨recs,trf,g1,g2,W,g5,g6⟩:=Rm X l (i+1) G c (by omega) h;refine⟨e::recs,trf,by simp[g1],g2,λx hx=>W x (N x hx),λj r m=>?_,λj D r M m=>?_⟩
   ·cases j with
    | zero=>simp only[mV,aw]at m;subst m;exact O.imp (W _) id
    | succ j=>have:=g5 j r (by simpa using m);rwa[show i+1+j=i+(j+1)by omega]at this
   ·cases j with
    | zero=>
     simp only[mV,aw]at M m;subst M m;exact⟨U,hl⟩
    | succ j=>
     obtain⟨p1,V⟩:=g6 j D r (by simpa using M) (by simpa using m);rw[show i+1+j=i+(j+1)by omega]at V;exact⟨p1,λq=>(V q).eqv (by simpa using Eqv.puts (recs.take j) e2)⟩
  split at h
  ·rename_i I;exact more ⟨o.dst,none,[],[]⟩ tr (s.app o.dst none [] s.nb) rfl (λq=>by rw[I]at q;cases q) (Eqv.refl _) (bi _) (λ_ h=>h) (.inr ⟨rfl,rfl⟩) h
  obtain⟨B,A,h,u,hw⟩:=CZ h;have d:A.nb=s.nb:=u.nb;cases B
  ·simp only at h;split at h
   case h_2=>cases h
   rename_i U;refine more ⟨o.dst,some (.tp []),[],[]⟩ tr (A.app o.dst (some (.tp [])) [] A.nb) rfl (λ_ s' J Z q3 q4 ι0 w0 ι a w F y K Q L=>?_) (u.put ⟨o.dst,some (.tp []),[],[]⟩) (Au d.symm) (λ_ h=>h) (.inr ⟨rfl,rfl⟩) h;rw[hw s' J n ι0 ι w0 a w F];simp only[bI,aF];exact L ι _ _ (λ_ _=>rfl) (F.skip U)
  ·simp only at h;rcases FQ X (by omega) h with⟨val,wr,rd,g,S,f⟩ | ⟨v,wr,rd,S,f⟩
   ·refine more ⟨o.dst,val,wr,rd⟩ (⟨i,rd,keys wr⟩::tr) (A.app o.dst val wr A.nb) rfl (λ_ s' J Z q3 q4 ι0 w0 ι a w F y K Q L=>?_) (u.put ⟨o.dst,val,wr,rd⟩) (Au d.symm) (λx hx=>fV _ hx) (.inl (by simp[keys])) S;rw[hw s' J n ι0 ι w0 a w F];simp only[aS];refine f s' (zO λt ht=>by rw[J t ht,u.T]) (λb q=>by rw[Z b q,u.H]) (by rw[q3,d]) (by rw[q4,u.ro]) ι0 w0 ι a w F (by simpa using y) K Q λR a' w' z1 z2=>L R a' w' (by simpa using z1) z2
   ·cases S
def Ft {α:Type} {E:List Ent} (hE:∀x∈E,gV P x) {n nb0:Nat} {ops:List Oper} {masks:List Nat} {k:St->List TE->Option α} {kp:Nat->V->St->List TE->Option α} {z:α}:∀(l:List Oper) (i:Nat) (s:St) (tr:List TE),
  nb0+8*(i+l.length)<=s.nb->runD P E n nb0 ops masks kp i l s tr k=some z->
  (∃(recs:List Rec) (d:St) (trf:List TE),recs.length=l.length/\k d trf=some z/\Eqv d (recs.foldl St.put s)/\(∀x∈tr,x∈trf)/\
   (∀j r,recs[j]?=some r->(⟨i+j,r.rd,keys r.wr⟩:TE)∈trf\/(r.rd=[]/\r.wr=[]))/\
   ∀(j:Nat) (o:Oper) (r:Rec),l[j]?=some o->recs[j]?=some r->r.dst=o.dst/\xk P n nb0 ops (i+j) o r ((recs.take j).foldl St.put s))\/
  (∃(p:Nat) (op:Oper) (recs:List Rec) (d:St) (M:St) (trf:List TE) (v:V) (wr:List (Nat×Blk)) (y:Rec),recs.length=l.length/\l[p]?=some op/\recs[p]?=some y/\y.dst=op.dst/\y.wr=[]/\M=d.app none none wr d.nb/\kp (i+p) v M trf=some z/\Eqv d ((recs.take p).foldl St.put s)/\(∀x∈tr,x∈trf)/\
   B9 P n nb0 ops (i+p) op v wr y.rd ((recs.take p).foldl St.put s)/\
   (∀j r,recs[j]?=some r->j≠p->(⟨i+j,r.rd,keys r.wr⟩:TE)∈trf\/(r.rd=[]/\r.wr=[]))/\
   ∀(j:Nat) (o:Oper) (r:Rec),l[j]?=some o->recs[j]?=some r->r.dst=o.dst/\((j<p\/(p<j/\(getN masks (i+j)).testBit (i+p)=false))->xk P n nb0 ops (i+j) o r ((recs.take j).foldl St.put s)))
 | [],i,s,tr,U,h=>.inl ⟨[],s,tr,rfl,h,Eqv.refl s,λ_ h=>h,λj r h=>by simp at h,λj o r h=>by simp at h⟩
 | o::l,i,s,tr,U,h=>by
  simp only [aI] at U;simp only [runD] at h;obtain ⟨R,F,h,A,hw⟩:=CZ h;have e:F.nb=s.nb:=A.nb;have more:∀(B:Rec) (m:List TE) (s2:St),B.dst=o.dst->xk P n nb0 ops i o B s->Eqv s2 (s.put B)->s.nb<=s2.nb->(∀x∈tr,x∈m)->((⟨i,B.rd,keys B.wr⟩:TE)∈m\/(B.rd=[]/\B.wr=[]))->
    runD P E n nb0 ops masks kp (i+1) l s2 m k=some z->
    (∃(recs:List Rec) (d:St) (trf:List TE),recs.length=(o::l).length/\k d trf=some z/\Eqv d (recs.foldl St.put s)/\(∀x∈tr,x∈trf)/\
   (∀j r,recs[j]?=some r->(⟨i+j,r.rd,keys r.wr⟩:TE)∈trf\/(r.rd=[]/\r.wr=[]))/\
   ∀(j:Nat) (f:Oper) (r:Rec),(o::l)[j]?=some f->recs[j]?=some r->r.dst=f.dst/\xk P n nb0 ops (i+j) f r ((recs.take j).foldl St.put s))\/
    (∃(p:Nat) (op:Oper) (recs:List Rec) (d:St) (M:St) (trf:List TE) (v:V) (wr:List (Nat×Blk)) (y:Rec),recs.length=(o::l).length/\(o::l)[p]?=some op/\recs[p]?=some y/\y.dst=op.dst/\y.wr=[]/\M=d.app none none wr d.nb/\kp (i+p) v M trf=some z/\Eqv d ((recs.take p).foldl St.put s)/\(∀x∈tr,x∈trf)/\
   B9 P n nb0 ops (i+p) op v wr y.rd ((recs.take p).foldl St.put s)/\
   (∀j r,recs[j]?=some r->j≠p->(⟨i+j,r.rd,keys r.wr⟩:TE)∈trf\/(r.rd=[]/\r.wr=[]))/\
   ∀(j:Nat) (f:Oper) (r:Rec),(o::l)[j]?=some f->recs[j]?=some r->r.dst=f.dst/\((j<p\/(p<j/\(getN masks (i+j)).testBit (i+p)=false))->xk P n nb0 ops (i+j) f r ((recs.take j).foldl St.put s))):=by
   intro B m s2 hd hl L hnb2 Y hte h;rcases Ft hE l (i+1) s2 m (by omega) h with ⟨recs,d,trf,W,N,g3,J,g5,X⟩ | ⟨p,op,recs,d,M,trf,v,wr,y,W,g0,gr,gd,gw,gs,N,g3,J,g7,g5,X⟩
   ·refine .inl ⟨B::recs,d,trf,by simp [W],N,g3.trans (Eqv.puts recs L),λx hx=>J x (Y x hx),λj r c=>?_,λj f r u c=>?_⟩
    ·cases j with
     | zero=>simp only [mV,aw] at c;subst c;exact hte.imp (J _) id
     | succ j=>have:=g5 j r (by simpa using c);rwa [show i+1+j=i+(j+1) by omega] at this
    ·cases j with
     | zero=>
      simp only [mV,aw] at u c;subst u c;exact ⟨hd,hl⟩
     | succ j=>
      obtain ⟨O,D⟩:=X j f r (by simpa using u) (by simpa using c);rw [show i+1+j=i+(j+1) by omega] at D;exact ⟨O,D.eqv (by simpa using Eqv.puts (recs.take j) L)⟩
   ·rw [show i+1+p=i+(p+1) by omega] at N g7;refine .inr ⟨p+1,op,B::recs,d,M,trf,v,wr,y,by simp [W],by simpa using g0,by simpa using gr,gd,gw,gs,N,g3.trans (by simpa using Eqv.puts (recs.take p) L),λx hx=>J x (Y x hx),g7.eqv (by simpa using Eqv.puts (recs.take p) L),λj r c hjp=>?_,λj f r u c=>?_⟩
    ·cases j with
     | zero=>simp only [mV,aw] at c;subst c;exact hte.imp (J _) id
     | succ j=>have:=g5 j r (by simpa using c) (by omega);rwa [show i+1+j=i+(j+1) by omega] at this
    ·cases j with
     | zero=>
      simp only [mV,aw] at u c;subst u c;exact ⟨hd,λ_=>hl⟩
     | succ j=>
      obtain ⟨O,D⟩:=X j f r (by simpa using u) (by simpa using c);rw [show i+1+j=i+(j+1) by omega,show i+1+p=i+(p+1) by omega] at D;exact ⟨O,λhc=>(D (hc.imp (λh=>by omega) λh=>⟨by omega,h.2⟩)).eqv (by simpa using Eqv.puts (recs.take j) L)⟩
  cases R
  ·simp only at h;split at h
   case h_2=>cases h
   rename_i hd;refine more ⟨o.dst,some (.tp []),[],[]⟩ tr (F.app o.dst (some (.tp [])) [] F.nb) rfl (λs' I Z q3 q4 ι0 w0 ι a w G C K Q S=>?_) (A.put ⟨o.dst,some (.tp []),[],[]⟩) (Au e.symm) (λ_ h=>h) (.inr ⟨rfl,rfl⟩) h;rw [hw s' I n ι0 ι w0 a w G];simp only [bI,aF];exact S ι _ _ (λ_ _=>rfl) (G.skip hd)
  ·simp only at h;rcases FQ hE (by omega) h with ⟨val,wr,rd,g,hk,q⟩ | ⟨v,wr,rd,hk,q⟩
   ·refine more ⟨o.dst,val,wr,rd⟩ (⟨i,rd,keys wr⟩::tr) (F.app o.dst val wr F.nb) rfl (λs' I Z q3 q4 ι0 w0 ι a w G C K Q S=>?_) (A.put ⟨o.dst,val,wr,rd⟩) (Au e.symm) (λx hx=>fV _ hx) (.inl (by simp [keys])) hk;rw [hw s' I n ι0 ι w0 a w G];simp only [aS];refine q s' (zO λt ht=>by rw [I t ht,A.T]) (λb hb=>by rw [Z b hb,A.H]) (by rw [q3,e]) (by rw [q4,A.ro]) ι0 w0 ι a w G (by simpa using C) K Q λι' a' w' z1 z2=>S ι' a' w' (by simpa using z1) z2
   ·obtain ⟨recs,trf,W,N,J,g5,X⟩:=Rm hE l (i+1) _ tr (by simp only [St.app];omega) hk;have L:Eqv (F.app o.dst none [] F.nb) (s.put ⟨o.dst,none,[],rd⟩):=A.put ⟨o.dst,none,[],rd⟩;refine .inr ⟨0,o,⟨o.dst,none,[],rd⟩::recs,F,_,trf,v,wr,⟨o.dst,none,[],rd⟩,by simp [W],rfl,rfl,rfl,rfl,rfl,N,A,J,λs' I Z q3 q4 ι0 w0 ι a w G C K Q S=>?_,λj r c hjp=>?_,λj f r u c=>?_⟩
    ·simp only [oq,JY] at I Z q3 q4;exact ⟨hw s' I n ι0 ι w0 a w G,q s' (zO λt ht=>by rw [I t ht,A.T]) (λb hb=>by rw [Z b hb,A.H]) (by rw [q3,e]) (by rw [q4,A.ro]) ι0 w0 ι a w G (by simpa using C) K Q S⟩
    ·cases j with
     | zero=>exact absurd rfl hjp
     | succ j=>have:=g5 j r (by simpa using c);rwa [show i+1+j=i+(j+1) by omega] at this
    ·cases j with
     | zero=>
      simp only [mV,aw] at u c;subst u c;exact ⟨rfl,λh=>by omega⟩
     | succ j=>
      obtain ⟨O,D⟩:=X j f r (by simpa using u) (by simpa using c);rw [show i+1+j=i+(j+1) by omega] at D;refine ⟨O,λhc=>(D ?_).eqv (by simpa using Eqv.puts (recs.take j) L)⟩;rcases hc with hc | hc
      ·omega
      ·exact hc.2
def Down(ops:List Oper)(D:Nat->Bool):Prop:=∀j o e,ops[j]?=some o->D j=true->e∈o.after.toList->Region.binds .any e=true->D e.on=true
def Must(ops:List Oper)(i j:Nat):Prop:=∀D,Down ops D->D j=true->D i=true
def Dn(a:Array Bool):Nat->Bool:=λi=>a.getD i false
structure DrawFacts(P:Program)(n nb0:Nat)(ops:List Oper)(recs:List Rec)(s0:St)(live:Nat->Prop):Prop where
 len:recs.length=ops.length
 nb:s0.nb=nb0+8*ops.length
 loc:∀(j:Nat) (o:Oper) (r:Rec),ops[j]?=some o->recs[j]?=some r->(∀t,r.dst=some t->o.dst=some t)/\(live j->xk P n nb0 ops j o r (appD 0 recs (λm=>decide (m<j)) s0))
 down:∀(j:Nat) (o:Oper) (e:Edge),ops[j]?=some o->e∈o.after.toList->Region.binds .any e=true->e.on<j
 apart:∀(i j:Nat) (x y:Oper),i<j->ops[i]?=some x->ops[j]?=some y->Must ops i j\/x.apart ops.toArray y=true
 blk:∀(i j:Nat) (x y:Rec),i<j->recs[i]?=some x->recs[j]?=some y->Must ops i j\/((∀b∈keys x.wr,b∉y.rd/\b∉keys y.wr)/\∀b∈x.rd,b∉keys y.wr)
def wO{ops:List Oper}{a:Array Bool}{i:Nat}(hs:a.size=ops.length)(h:i∈Region.ready .any ops.toArray a):
  ∃o,ops[i]?=some o/\i<ops.length/\Dn a i=false/\∀e∈o.after.toList,Region.binds .any e=true->Dn a e.on=true:=by
 unfold Region.ready at h;simp only[na,il,aD,A8]at h;obtain⟨c,f,d⟩:=h;have b:ops[i]?=some ops[i]:=by simp[c]
 refine⟨ops[i],b,c,?_,λe j g=>?_⟩
 ·unfold Dn;have:i<a.size:=by omega
  simp only[um,ZN this,AV]at f ⊢;simpa using f
 ·simp only[List.getElem?_toArray,b,fQ,AV]at d;have:=(Array.all_eq_true'.1 d) e (by simpa using j);simp only[g,dU,qK]at this;exact this
def EO{ops:List Oper}{a:Array Bool}{i:Nat}{o:Oper}(hs:a.size=ops.length)(b:ops[i]?=some o)(d:Dn a i=false)
  (h:∀e∈o.after.toList,Region.binds .any e=true->Dn a e.on=true):i∈Region.ready .any ops.toArray a:=by
 have hi:i<ops.length:=by
  rcases aN i ops.length with c | c
  ·exact c
  ·rw[gS c]at b;cases b
 unfold Region.ready;simp only[na,il,aD,A8];refine⟨hi,?_,?_⟩
 ·have:i<a.size:=by omega
  unfold Dn at d;simp only[um,ZN this,AV]at d ⊢;simp[d]
 ·simp only[List.getElem?_toArray,b,fQ,AV];refine Array.all_eq_true'.2 λe g=>?_;cases f:Region.binds .any e with
  | false=>rfl
  | true=>
   have:=h e (by simpa using g) f;unfold Dn at this;simpa using this
def CJ{a:Array Bool}{i:Nat}(h:i<a.size)(j:Nat):Dn (a.setIfInBounds i true) j=if j=i then true else Dn a j:=by
 unfold Dn;simp only[um];rw[Xh];by_cases b:i=j
 ·subst b;simp[h]
 ·simp[b,show¬j=i fromλe=>b e.symm]
def Down.add{ops:List Oper}{D:Nat->Bool}(h:Down ops D){i:Nat}{o:Oper}(O:ops[i]?=some o)(U:∀e∈o.after.toList,Region.binds .any e=true->D e.on=true):
  Down ops λj=>if j=i then true else D j:=by
 intro j Q e E F J G;show(if e.on=i then true else D e.on)=true;by_cases C:j=i
 ·subst C;rw[O]at E;cases E;have:=U e J G;split
  ·rfl
  ·exact this
 ·simp only[C,aF]at F;have:=h j Q e E F J G;split
  ·rfl
  ·exact this
def Must.in{ops:List Oper}{D:Nat->Bool}(h:Down ops D){i k:Nat}{o:Oper}(E:ops[i]?=some o)(G:∀e∈o.after.toList,Region.binds .any e=true->D e.on=true)
  (F:Must ops k i) (C:k≠i):D k=true:=by
 have:=F _ (h.add E G) (by simp);simpa[C]using this
section
variable {n nb0:Nat} {ops:List Oper} {recs:List Rec} {s0:St} {live:Nat->Prop} (F:DrawFacts P n nb0 ops recs s0 live)
include F
def zX{i:Nat}{o:Oper}(h:ops[i]?=some o):∃r,recs[i]?=some r:=by
 have hi:i<ops.length:=by
  rcases aN i ops.length with h' | h'
  ·exact h'
  ·rw[gS h']at h;cases h
 exact⟨recs[i]'(by rw[F.len];exact hi),by simp[F.len,hi]⟩
def AT{i:Nat}{r:Rec}(h:recs[i]?=some r):∃o,ops[i]?=some o:=by
 have hi:i<recs.length:=by
  rcases aN i recs.length with h' | h'
  ·exact h'
  ·rw[gS h']at h;cases h
 exact⟨ops[i]'(by rw[<-F.len];exact hi),by simp[F.len▸hi]⟩
def E6{D:Nat->Bool}(q:Down ops D){i:Nat}{o:Oper}(g:ops[i]?=some o)(u:D i=false)(x:∀e∈o.after.toList,Region.binds .any e=true->D e.on=true)
  {t:Nat} (s:t∈o.looksAt ops.toArray):look (appD 0 recs D s0).T t=look (appD 0 recs (λm=>decide (m<i)) s0).T t:=by
 rw[CE,CE];refine vN recs 0 _ _ t _ λj r v w=>?_;simp only[dw];obtain⟨n,b⟩:=AT F v;have a:=((F.loc j n r b v).1 t w).symm;rcases IF j i with d | k | h
 ·have p:D j=true:=by
   rcases F.apart j i n o d b g with l | c
   ·exact l.in q g x (by omega)
   ·exact absurd s ((HQ c).1 t a.symm)
  rw[p];simp[d]
 ·subst k;simp[u]
 ·have p:D j=false:=by
   rcases F.apart i j o n h g b with l | c
   ·cases f:D j with
    | false=>rfl
    | true=>have:=l D q f;rw[u]at this;cases this
   ·exact absurd s ((HQ c).2.2 t a.symm)
  rw[p];simp;omega
def DJ{D:Nat->Bool}(n:Down ops D){i:Nat}{o:Oper}{r:Rec}(v:ops[i]?=some o)(q:recs[i]?=some r)(t:D i=false)
  (w:∀e∈o.after.toList,Region.binds .any e=true->D e.on=true) {b:Nat} (p:b∈r.rd):look (appD 0 recs D s0).H b=look (appD 0 recs (λm=>decide (m<i)) s0).H b:=by
 rw[zJ,zJ];refine so recs 0 _ _ b _ λj l s u=>?_;simp only[dw];rcases IF j i with c | g | f
 ·have k:D j=true:=by
   rcases F.blk j i l r c s q with h | a
   ·exact h.in n v w (by omega)
   ·exact absurd p (a.1 b u).1
  rw[k];simp[c]
 ·subst g;simp[t]
 ·have k:D j=false:=by
   rcases F.blk i j r l f q s with h | a
   ·cases d:D j with
    | false=>rfl
    | true=>have:=h D n d;rw[t]at this;cases this
   ·exact absurd u (a.2 b p)
  rw[k];simp;omega
def Ei{D:Nat->Bool}(C:Down ops D){i:Nat}{o:Oper}{r:Rec}(B:ops[i]?=some o)(f:recs[i]?=some r)(A:D i=false):
  Eqv ((appD 0 recs D s0).put r) (appD 0 recs (λj=>if j=i then true else D j) s0):=by
 have n:=(F.loc i o r B f).1;refine⟨λt=>?_,λb=>?_,by rw[YL,mZ,mZ],by show(appD 0 recs D s0).lo=_;rw[AA,AA],by show(appD 0 recs D s0).ro=_;rw[kI,kI],by show(appD 0 recs D s0).rb=_;rw[zU,zU]⟩
 ·rw[Td,CE,CE];by_cases m:r.dst=some t
  ·rw[ae m];symm;refine Le recs 0 i _ t _ r f (by simp) m λk h y c x=>?_;simp only[dw,show¬k=i by omega,aF];obtain⟨ok,l⟩:=AT F c;have u:=(F.loc k ok h l c).1;rcases F.apart i k o ok y B l with q | d
   ·cases e:D k with
    | false=>rfl
    | true=>have:=q D C e;rw[A]at this;cases this
   ·exact absurd (u t x) ((HQ d).2.1 t (n t m))
  ·rw[ab m];refine vN recs 0 _ _ t _ λj h p s=>?_;simp only[dw];by_cases a:j=i
   ·subst a;rw[f]at p;cases p;exact absurd s m
   ·simp[a]
 ·rw[Tc,zJ,zJ];by_cases g:b∈keys r.wr
  ·obtain⟨v,z⟩:=uQ g;rw[z,Option.some_or];symm;rw[<-z];refine LM recs 0 i _ b _ r f (by simp) g λk h y c w=>?_;simp only[dw,show¬k=i by omega,aF];rcases F.blk i k r h y f c with q | d
   ·cases e:D k with
    | false=>rfl
    | true=>have:=q D C e;rw[A]at this;cases this
   ·exact absurd w (d.1 b g).2
  ·rw[tU g,I4];refine so recs 0 _ _ b _ λj h p w=>?_;simp only[dw];by_cases a:j=i
   ·subst a;rw[f]at p;cases p;exact absurd w g
   ·simp[a]
def FZ {kk:Nat} (A:∀j,kk<=j->j<ops.length->live j) {ι0:Inj} {w0:Base} {Q:Exit->Act->World->Prop} (O:∀ι a w,Inv n ι0 w0 ι (recs.foldl St.put s0) a w->Q .normal a w):
  ∀(fuel:Nat) (c:Array Bool) (ι:Inj) (a:Act) (w:World),c.size=ops.length->(∀j,j<kk->Dn c j=true)->Down ops (Dn c)->Inv n ι0 w0 ι (appD 0 recs (Dn c) s0) a w->
   (∀i,i<ops.length->Dn c i=false->∀b,nb0+8*i<=b->b<nb0+8*i+8->ι b=none)->((List.range ops.length).filter λi=>!Dn c i).length<=fuel->
   wpAny P .any ops.toArray Q fuel c a w:=by
 have fin:∀(c:Array Bool) (ι:Inj) (a:Act) (w:World),c.size=ops.length->Inv n ι0 w0 ι (appD 0 recs (Dn c) s0) a w->Region.ready .any ops.toArray c=[]->Q .normal a w:=by
  intro c ι a w hs s p;have B:∀j,j<ops.length->Dn c j=true:=by
   intro j
   induction j using Nat.strongRecOn with
   | _ j ih=>
    intro x;cases G:Dn c j with
    | true=>rfl
    | false=>
     have f:ops[j]?=some ops[j]:=by simp [x]
     have M:=EO hs f G λe N D=>ih e.on (F.down j _ e f N D) (by have:=F.down j _ e f N D;omega);rw [p] at M;cases M
  rw [DN recs 0 (Dn c) s0 λj x=>by simpa using B j (by rw [<-F.len];exact x)] at s;exact O ι a w s
 intro fuel
 induction fuel with
 | zero=>
  intro c ι a w hs u C s q hc;have p:Region.ready .any ops.toArray c=[]:=by
   rw [List.eq_nil_iff_forall_not_mem];intro i hi;obtain ⟨o,f,g,m,_⟩:=wO hs hi;have:i∈(List.range ops.length).filter λi=>!Dn c i:=by simp [g,m]
   have:=H6 this;omega
  exact ⟨p,fin c ι a w hs s p⟩
 | succ fuel ih=>
  intro c ι a w hs u C s q hc;refine ⟨fin c ι a w hs s,λi hi=>?_⟩;obtain ⟨o,f,g,m,J⟩:=wO hs hi;obtain ⟨r,p⟩:=zX F f;have z:=(F.loc i o r f p).2 (A i (by rcases aN i kk with h | h;(· have:=u i h;rw [m] at this;cases this);exact h) g);have d:Dn (c.setIfInBounds i true)=λj=>if j=i then true else Dn c j:=by
   funext j;exact CJ (by omega) j
  have E:=z (appD 0 recs (Dn c) s0) (λt T=>E6 F C f m J T) (λb D=>DJ F C f p m J D) (by rw [mZ,mZ]) (by rw [kI,kI]) ι0 w0 ι a w s (q i g m)
   (wpAny P .any ops.toArray Q fuel (c.setIfInBounds i true)) Q λK U w' S R=>by
    refine ih _ K U w' (by simpa using hs) (λj x=>by rw [d];simp only;split;(· rfl);exact u j x) (by rw [d];exact C.add f J) (by rw [d];exact R.eqv (Ei F C f p m)) (λj x k b L H=>?_) ?_
    ·rw [d] at k;by_cases l:j=i
     ·simp [l] at k
     ·simp only [l,aF] at k;rw [S b (by omega)];exact q j x k b L H
    ·have:((List.range ops.length).filter λj=>!Dn (c.setIfInBounds i true) j).length<((List.range ops.length).filter λj=>!Dn c j).length:=by
      rw [d];have y:((List.range ops.length).filter λj=>!(if j=i then true else Dn c j))=((List.range ops.length).filter λj=>!Dn c j).filter λj=>decide (j≠i):=by
       rw [KW];congr 1;funext j;by_cases l:j=i<;>simp [l]
      rw [y];refine Es.2 ⟨i,by simp [g,m],by simp⟩
     omega
  unfold wpOp;have I:ops.toArray[i]?=some o:=by simpa using f
  rw [I];simp only;split
  ·rename_i v;rw [ae v] at E;exact .inl E
  ·rename_i v;rw [ab v] at E;exact E
def UF {lim kk:Nat} (C:lim<ops.length) (g:∀j,kk<=j->j<lim->live j/\Must ops j lim) (u:∀j,lim<j->j<ops.length->Must ops lim j) {ι0:Inj} {w0:Base} {Q:Exit->Act->World->Prop}
  (U:∀(fuel:Nat) (c:Array Bool) (ι:Inj) (a:Act) (w:World),c.size=ops.length->(∀j,j<lim->Dn c j=true)->Dn c lim=false->Down ops (Dn c)->Down ops (Dn (c.setIfInBounds lim true))->
   Inv n ι0 w0 ι (appD 0 recs (Dn c) s0) a w->((List.range ops.length).filter λi=>!Dn c i).length<=fuel+1->wpOp P ops.toArray Q lim (wpAny P .any ops.toArray Q fuel (c.setIfInBounds lim true)) a w):
  ∀(fuel:Nat) (c:Array Bool) (ι:Inj) (a:Act) (w:World),c.size=ops.length->(∀j,j<kk->Dn c j=true)->Down ops (Dn c)->Dn c lim=false->Inv n ι0 w0 ι (appD 0 recs (Dn c) s0) a w->
   (∀i,i<ops.length->Dn c i=false->∀b,nb0+8*i<=b->b<nb0+8*i+8->ι b=none)->((List.range ops.length).filter λi=>!Dn c i).length<=fuel->
   wpAny P .any ops.toArray Q fuel c a w:=by
 have fin:∀(c:Array Bool),c.size=ops.length->Dn c lim=false->Region.ready .any ops.toArray c=[]->False:=by
  intro c hs hp v;have G:∀j,j<ops.length->Dn c j=true:=by
   intro j
   induction j using Nat.strongRecOn with
   | _ j ih=>
    intro z;cases J:Dn c j with
    | true=>rfl
    | false=>
     have f:ops[j]?=some ops[j]:=by simp [z]
     have S:=EO hs f J λe T H=>ih e.on (F.down j _ e f T H) (by have:=F.down j _ e f T H;omega);rw [v] at S;cases S
  rw [G lim C] at hp;cases hp
 intro fuel
 induction fuel with
 | zero=>
  intro c ι a w hs m p hp M q hc;have:lim∈(List.range ops.length).filter λi=>!Dn c i:=by simp [C,hp]
  have:=H6 this;omega
 | succ fuel ih=>
  intro c ι a w hs m p hp M q hc;refine ⟨λv=>(fin c hs hp v).elim,λi hi=>?_⟩;obtain ⟨o,f,x,s,A⟩:=wO hs hi;obtain ⟨r,v⟩:=zX F f;have d:Dn (c.setIfInBounds i true)=λj=>if j=i then true else Dn c j:=by
   funext j;exact CJ (by omega) j
  by_cases E:i=lim
  ·subst E;refine U fuel c ι a w hs (λj z=>?_) s p (by rw [d];exact p.add f A) M hc;rcases aN j kk with h | h
   ·exact m j h
   ·exact (g j h z).2.in p f A (by omega)
  have L:ops.toArray[i]?=some o:=by simpa using f
  unfold wpOp;rw [L];simp only;have hlt':i<lim:=by
   rcases aN i lim with h | h
   ·exact h
   ·have:=(u i (by omega) x).in p f A (λe=>E e.symm);rw [hp] at this;cases this
  have N:kk<=i:=by
   rcases aN i kk with h | h
   ·have:=m i h;rw [s] at this;cases this
   ·exact h
  have D:=(F.loc i o r f v).2 (g i N hlt').1
  have I:=D (appD 0 recs (Dn c) s0) (λt X=>E6 F p f s A X) (λb H=>DJ F p f v s A H) (by rw [mZ,mZ]) (by rw [kI,kI]) ι0 w0 ι a w M (q i x s)
   (wpAny P .any ops.toArray Q fuel (c.setIfInBounds i true)) Q λO Y w' W V=>by
    refine ih _ O Y w' (by simpa using hs) (λj z=>by rw [d];simp only;split;(· rfl);exact m j z) (by rw [d];exact p.add f A) (by rw [d];simp only [show ¬lim=i by omega,aF];exact hp) (by rw [d];exact V.eqv (Ei F p f v s)) (λj z k b R K=>?_) ?_
    ·rw [d] at k;by_cases l:j=i
     ·simp [l] at k
     ·simp only [l,aF] at k;rw [W b (by omega)];exact q j z k b R K
    ·have:((List.range ops.length).filter λj=>!Dn (c.setIfInBounds i true) j).length<((List.range ops.length).filter λj=>!Dn c j).length:=by
      rw [d];have B:((List.range ops.length).filter λj=>!(if j=i then true else Dn c j))=((List.range ops.length).filter λj=>!Dn c j).filter λj=>decide (j≠i):=by
       rw [KW];congr 1;funext j;by_cases l:j=i<;>simp [l]
      rw [B];refine Es.2 ⟨i,by simp [x,s],by simp⟩
     omega
  split
  ·rename_i y;rw [ae y] at I;exact .inl I
  ·rename_i y;rw [ab y] at I;exact I
def RV {lim:Nat} {ι0:Inj} {w0:Base} {Q:Exit->Act->World->Prop} {U:Oper} {pr:Rec} {v:V} {wr:List (Nat×Blk)} (g:ops[lim]?=some U) (J:recs[lim]?=some pr)
  (R:B9 P n nb0 ops lim U v wr pr.rd (appD 0 recs (λm=>decide (m<lim)) s0))
  (y:∀j,j<ops.length->j≠lim->live j\/Must ops lim j)
  (hQ:∀D,Down ops D->(∀e∈U.after.toList,Region.binds .any e=true->D e.on=true)->D lim=false->∀ι x a w,VR ι v x->Inv n ι0 w0 ι ((appD 0 recs D s0).app none none wr s0.nb) a w->Q (.panic [{ v:=x,recovered:=false }]) a w):
  ∀(fuel:Nat) (c:Array Bool) (ι:Inj) (a:Act) (w:World),c.size=ops.length->Down ops (Dn c)->Dn c lim=false->Inv n ι0 w0 ι (appD 0 recs (Dn c) s0) a w->
   (∀i,i<ops.length->Dn c i=false->∀b,nb0+8*i<=b->b<nb0+8*i+8->ι b=none)->((List.range ops.length).filter λi=>!Dn c i).length<=fuel->
   wpAny P .any ops.toArray Q fuel c a w:=by
 have H:lim<ops.length:=by
  rcases aN lim ops.length with h' | h'
  ·exact h'
  ·rw [gS h'] at g;cases g
 have fin:∀(c:Array Bool),c.size=ops.length->Dn c lim=false->Region.ready .any ops.toArray c=[]->False:=by
  intro c hs hp l;have K:∀j,j<ops.length->Dn c j=true:=by
   intro j
   induction j using Nat.strongRecOn with
   | _ j ih=>
    intro hj;cases O:Dn c j with
    | true=>rfl
    | false=>
     have f:ops[j]?=some ops[j]:=by simp [hj]
     have L:=EO hs f O λe he E=>ih e.on (F.down j _ e f he E) (by have:=F.down j _ e f he E;omega);rw [l] at L;cases L
  rw [K lim H] at hp;cases hp
 intro fuel
 induction fuel with
 | zero=>
  intro c ι a w hs u hp Y h hc;have:lim∈(List.range ops.length).filter λi=>!Dn c i:=by simp [H,hp]
  have:=H6 this;omega
 | succ fuel ih=>
  intro c ι a w hs u hp Y h hc;refine ⟨λl=>(fin c hs hp l).elim,λi hi=>?_⟩;obtain ⟨o,f,s,k,z⟩:=wO hs hi;obtain ⟨r,l⟩:=zX F f;have T:ops.toArray[i]?=some o:=by simpa using f
  unfold wpOp;rw [T];simp only;by_cases A:i=lim
  case neg=>
   rcases y i s A with W | L
   case inr=>
    have:=L.in u f z (λe=>A e.symm);rw [hp] at this;cases this
   have I:=(F.loc i o r f l).2 W;have d:Dn (c.setIfInBounds i true)=λj=>if j=i then true else Dn c j:=by
    funext j;exact CJ (by omega) j
   have N:=I (appD 0 recs (Dn c) s0) (λt Z=>E6 F u f k z Z) (λb E=>DJ F u f l k z E) (by rw [mZ,mZ]) (by rw [kI,kI]) ι0 w0 ι a w Y (h i s k)
    (wpAny P .any ops.toArray Q fuel (c.setIfInBounds i true)) Q λC a' w' X M=>by
     refine ih _ C a' w' (by simpa using hs) (by rw [d];exact u.add f z) (by rw [d];simp only [show ¬lim=i by omega,aF];exact hp) (by rw [d];exact M.eqv (Ei F u f l k)) (λj hj p b hb1 S=>?_) ?_
     ·rw [d] at p;by_cases q:j=i
      ·simp [q] at p
      ·simp only [q,aF] at p;rw [X b (by omega)];exact h j hj p b hb1 S
     ·have:((List.range ops.length).filter λj=>!Dn (c.setIfInBounds i true) j).length<((List.range ops.length).filter λj=>!Dn c j).length:=by
       rw [d];have G:((List.range ops.length).filter λj=>!(if j=i then true else Dn c j))=((List.range ops.length).filter λj=>!Dn c j).filter λj=>decide (j≠i):=by
        rw [KW];congr 1;funext j;by_cases q:j=i<;>simp [q]
       rw [G];refine Es.2 ⟨i,by simp [s,k],by simp⟩
      omega
   split
   ·rename_i B;rw [ae B] at N;exact .inl N
   ·rename_i B;rw [ab B] at N;exact N
  case pos=>
   subst A;rw [g] at f;cases f;rw [J] at l;cases l
   obtain ⟨q1,q2⟩:=R (appD 0 recs (Dn c) s0) (λt Z=>E6 F u g k z Z) (λb E=>DJ F u g J k z E) (by rw [mZ,mZ]) (by rw [kI,kI]) ι0 w0 ι a w Y (h i s k)
    (wpAny P .any ops.toArray Q fuel (c.setIfInBounds i true)) Q λC x w' X M=>hQ _ u z k C x a w' X (by rw [mZ] at M;exact M)
   rw [ae q1];exact .inl q2
end
def Hu:∀{l:List Nat} {j:Nat},l.length<=j->getN l j=0
 | [],_,_=>rfl
 | _::_,0,h=>by simp at h
 | _::l,j+1,h=>Hu (l:=l) (by simpa using h)
def vf:∀{l m:List Nat} {j:Nat},j<l.length->getN (l++m) j=getN l j
 | [],_,_,h=>by simp at h
 | _::_,_,0,_=>rfl
 | _::l,m,j+1,h=>vf (l:=l) (m:=m) (by simpa using h)
def uY:∀(l:List Nat) (x:Nat),getN (l++[x]) l.length=x
 | [],_=>rfl
 | _::l,x=>uY l x
def vS(acc:List Nat):∀(l:List Edge) (s i:Nat),(G9 acc l s).testBit i=true->s.testBit i=true\/∃e∈l,Region.binds .any e=true/\(e.on=i\/(getN acc e.on).testBit i=true)
 | [],s,i,h=>.inl h
 | e::l,s,i,h=>by
  simp only[G9]at h;split at h
  ·rename_i f;rcases vS acc l _ i h with a | ⟨c,b,d⟩
   ·simp only[zS,jk]at a;rcases a with(a | a) | a
    ·exact .inl a
    ·refine .inr ⟨e,by simp,f,.inl ?_⟩;rw[Nat.testBit_two_pow]at a;simpa using a
    ·exact .inr ⟨e,by simp,f,.inr a⟩
   ·exact .inr ⟨c,fV _ b,d⟩
  ·rcases vS acc l _ i h with a | ⟨c,b,d⟩
   ·exact .inl a
   ·exact .inr ⟨c,fV _ b,d⟩
def sP(ops:List Oper):∀(r:List Oper) (acc:List Nat),(∀j,r[j]?=ops[acc.length+j]?)->(∀j i,(getN acc j).testBit i=true->Must ops i j)->
  ∀j i,(getN (me r acc) j).testBit i=true->Must ops i j
 | [],acc,_,h=>h
 | o::r,acc,l,h=>by
  simp only[me];refine sP ops r _ (λj=>by have:=l (j+1);simp only[K9]at this;rw[this];simp;congr 1;omega) λj i a=>?_;rcases IF j acc.length with g | f | p
  ·rw[vf g]at a;exact h j i a
  ·subst f;rw[uY]at a;have n:ops[acc.length]?=some o:=by have:=l 0;simpa using this.symm
   rcases vS acc _ _ _ a with b | ⟨e,q,d,b⟩
   ·simp at b
   ·intro D k c;have m:=k acc.length o e n c q d;rcases b with rfl | b
    ·exact m
    ·exact h e.on i b D k m
  ·rw[Hu (by simp;omega)]at a;simp at a
def lz:∀(l:List Oper) (i:Nat),uk i l=true->∀(j:Nat) (o:Oper) (e:Edge),l[j]?=some o->e∈o.after.toList->Region.binds .any e=true->e.on<i+j
 | [],_,_,_,_,_,h,_,_=>by simp at h
 | o::l,i,h,j,d,e,a,c,b=>by
  simp only[uk,aD,cb]at h;cases j with
  | zero=>
   simp only[mV,aw]at a;subst a;have:=h.1 e c;simp only[b,dU,qK]at this;exact aR this
  | succ j=>have:=lz l (i+1) h.2 j d e (by simpa using a) c b;omega
def vc{ops:Array Oper}{o:Oper}{a:Nat}:∀(l:List Oper) (i:Nat),wL ops o a i l=true->∀(j:Nat) (p:Oper),l[j]?=some p->a.testBit (i+j)=true\/p.apart ops o=true
 | [],_,_,_,_,h=>by simp at h
 | q::l,i,h,j,p,b=>by
  simp only[wL,aD,jk]at h;cases j with
  | zero=>simp only[mV,aw]at b;subst b;exact h.1
  | succ j=>have:=vc l (i+1) h.2 j p (by simpa using b);rwa[show i+1+j=i+(j+1)by omega]at this
def pw{ops:Array Oper}{masks:List Nat}:∀(l a:List Oper),wR ops masks a.length a l=true->∀(i j:Nat) (x y:Oper),i<a.length+j->(a++l)[i]?=some x->l[j]?=some y->
  (getN masks (a.length+j)).testBit i=true\/x.apart ops y=true
 | [],_,_,_,_,_,_,_,_,h=>by simp at h
 | o::l,a,h,i,j,x,y,hi,hx,hy=>by
  simp only[wR,aD]at h;cases j with
  | zero=>
   simp only[mV,aw]at hy;subst hy;have:=vc a 0 h.1 i x (by rw[qp (by simpa using hi)]at hx;exact hx);simpa using this
  | succ j=>
   have b:=h.2;rw[show a.length+1=(a++[o]).length by simp]at b;have:=pw l (a++[o]) b i j x y (by simp;omega) (by simpa using hx) (by simpa using hy);rwa[show(a++[o]).length+j=a.length+(j+1)by simp;omega]at this
def tw{masks:List Nat}:∀{tr:List TE},sX masks tr=true->∀x∈tr,∀y∈tr,x.i<y.i->zH masks x y=true\/zH masks y x=true
 | [],_,x,hx,_,_,_=>by cases hx
 | z::l,h,x,hx,y,hy,c=>by
  simp only[sX,aD,cb]at h;rcases ck.1 hx with b | b
  ·subst b;rcases ck.1 hy with a | a
   ·subst a;omega
   ·exact .inl (h.1 y a)
  ·rcases ck.1 hy with a | a
   ·subst a;exact .inr (h.1 x b)
   ·exact tw h.2 x b y a c
def zY{x y:TE}(h:Wy x y=false):(∀b∈x.ws,b∉y.rd/\b∉y.ws)/\∀b∈x.rd,b∉y.ws:=by
 simp only[Wy,qt,ud,jk,not_or,List.contains_iff_mem]at h;exact⟨λb a=>h.1 b a,λb a=>h.2 b a⟩
def G1{masks:List Nat}{x y:TE}(h:zH masks x y=true\/zH masks y x=true)(e:x.i<y.i):
  (getN masks y.i).testBit x.i=true\/((∀b∈x.ws,b∉y.rd/\b∉y.ws)/\∀b∈x.rd,b∉y.ws):=by
 have j:Nat.blt x.i y.i=true:=dc e;have k:Nat.blt y.i x.i=false:=by
  cases f:Nat.blt y.i x.i with
  | false=>rfl
  | true=>have:y.i<x.i:=aR f;omega
 rcases h with h | h
 ·simp only[zH,j,ah,jk,ko]at h;exact h.imp id zY
 ·simp only[zH,k,af,jk,ko]at h;refine h.imp id λh=>?_;obtain⟨a,b⟩:=zY h;exact⟨λc hc=>⟨λg=>b c g hc,λd=>(a c d).2 hc⟩,λc hc d=>(a c d).1 hc⟩
def xH:∀(ops:List Oper) {T:List (Nat×Option V)} (t:Nat) (v:V),look (MB ops T) t=some (some v)->(∀o∈ops,o.dst≠some t)/\look T t=some (some v)
 | [],T,t,v,h=>⟨by simp,h⟩
 | o::l,T,t,v,h=>by
  simp only[MB]at h;split at h
  ·rename_i d b;rw[bh]at h;split at h
   ·cases h
   ·rename_i a;obtain⟨f,c⟩:=xH l t v h;refine⟨λx hx=>?_,c⟩;rcases ck.1 hx with rfl | hx
    ·rw[b];intro e;cases e;exact a rfl
    ·exact f x hx
  ·rename_i b;obtain⟨f,c⟩:=xH l t v h;refine⟨λx hx=>?_,c⟩;rcases ck.1 hx with rfl | hx
   ·rw[b];intro e;cases e
   ·exact f x hx
def LX{α:Type}{E:List Ent}(hE:∀x∈E,gV P x){n:Nat}{ops:List Oper}{s:St}{k:Ex->St->Option α}{z:α}(h:Iq P E n ops s k=some z)(id:Nat):
  SemC P n (.region id ops.toArray true) s λex s'=>k ex s'=some z:=by
 intro ι0 w0 ι a w hI;unfold Iq at h;split at h
 case h_2=>cases h
 rename_i hok;simp only[aD,J0]at hok;obtain⟨⟨hb1,hb2,_⟩,S⟩:=hok;have g:=sP ops ops [] (by simp) (λj i u=>by simp[getN]at u);have hI1:Inv n ι0 w0 ι { s with nb:=s.nb+8*ops.length } a { w with drawn:=w.drawn+1 }:=by
  have d:=hI.drawn (w.drawn+1);exact⟨d.size,d.defers,d.tmps,⟨d.mem.inj,λb r u=>by have:=d.mem.low b r u;simp only;omega,d.mem.dom,d.mem.blk⟩,d.ext,d.new,d.fr,d.low,d.fz,d.gl⟩
 have K:∀i,Dn (Array.replicate ops.toArray.size false) i=false:=by
  intro i;unfold Dn;simp only[um,aaL];split<;>rfl
 have hno:∀(l:List Rec) (i:Nat) (D:Nat->Bool) (s:St),(∀j,D j=false)->appD i l D s=s:=by
  intro l
  induction l with
  | nil=>intros;rfl
  | cons r l ih=>intro i D s hD;simp only[appD,hD i,bI,aF];exact ih _ D s hD
 have C:∀(trf:List TE) (x y:Rec) (i j:Nat),sX (me ops []) (trf.filter λx=>!(x.rd.isEmpty&&x.ws.isEmpty))=true->i<j->((⟨0+i,x.rd,keys x.wr⟩:TE)∈trf\/(x.rd=[]/\x.wr=[]))->((⟨0+j,y.rd,keys y.wr⟩:TE)∈trf\/(y.rd=[]/\y.wr=[]))->
   Must ops i j\/((∀b∈keys x.wr,b∉y.rd/\b∉keys y.wr)/\∀b∈x.rd,b∉keys y.wr):=by
  intro trf x y i j J B hx hy;rcases hx with hxm | ⟨hx1,hx2⟩
  ·rcases hy with hym | ⟨hy1,hy2⟩
   ·simp only[dw]at hxm hym;by_cases X:(x.rd=[]/\x.wr=[])
    ·exact .inr (by simp[X.1,X.2,keys])
    ·by_cases Z:(y.rd=[]/\y.wr=[])
     ·exact .inr (by simp[Z.1,Z.2,keys])
     ·have m1:(⟨i,x.rd,keys x.wr⟩:TE)∈trf.filter λx=>!(x.rd.isEmpty&&x.ws.isEmpty):=by
       refine na.2 ⟨hxm,?_⟩;simp only[keys,ko,FL,Fe];rcases KD (x.rd=[])with h | h
       ·exact .inr (by simpa usingλhw=>X ⟨h,hw⟩)
       ·exact .inl h
      have m2:(⟨j,y.rd,keys y.wr⟩:TE)∈trf.filter λx=>!(x.rd.isEmpty&&x.ws.isEmpty):=by
       refine na.2 ⟨hym,?_⟩;simp only[keys,ko,FL,Fe];rcases KD (y.rd=[])with h | h
       ·exact .inr (by simpa usingλhw=>Z ⟨h,hw⟩)
       ·exact .inl h
      have:=G1 (tw J _ m1 _ m2 B) B;exact this.imp (g j i) λh=>h
   ·exact .inr (by simp[hy1,hy2,keys])
  ·exact .inr (by simp[hx1,hx2,keys])
 rcases Ft hE ops 0 _ [] (by simp) h with⟨recs,Q,trf,g1,R,O,_,g5,g6⟩ | ⟨p,po,recs,Q,sp,trf,v,wr,rp,g1,g0,gr,gd,gw,rfl,R,O,_,g7,g5,g6⟩
 ·split at R
  case h_2=>cases R
  rename_i J;have F:DrawFacts P n s.nb ops recs { s with nb:=s.nb+8*ops.length } (λ_=>True):=by
   refine⟨g1,rfl,λj o r N V=>?_,λj o e N he u=>?_,λi j x y B hx hy=>?_,λi j x y B hx hy=>?_⟩
   ·obtain⟨p1,p2⟩:=g6 j o r N V;simp only[dw]at p2;have e:=uc recs 0 j { s with nb:=s.nb+8*ops.length };simp only[dw]at e;exact⟨λt Y=>p1▸Y,λ_=>p2.eqv e⟩
   ·have:=lz ops 0 hb1 j o e N he u;omega
   ·have:=pw (masks:=me ops []) ops [] hb2 i j x y (by simpa using B) (by simpa using hx) hy;simp only[bU,dw]at this;exact this.imp (g j i) λh=>h
   ·exact C trf x y i j J B (g5 i x hx) (g5 j y hy)
  refine wp_region_any S (FZ (kk:=0) F (λ_ _ _=>trivial) (λL a' w' f=>⟨.normal,Q,L,rfl,f.eqv O.symm,R⟩) _ _ ι a _ (by simp) (λj hj=>by omega) (λj o e _ G=>by rw[K j]at G;cases G) (by rw[hno recs 0 _ _ K];exact hI1) (λi _ _ b u _=>?_) ?_)
  ·exact hI.fresh b (by omega)
  ·have:=D8 (λi=>!Dn (Array.replicate ops.toArray.size false) i) (List.range ops.length);simpa using this
 ·split at R
  case h_2=>cases R
  rename_i hpk;simp only[aD,aaK]at hpk;obtain⟨hw,J⟩:=hpk;simp only[dw]at R g7 hw;have B:p<ops.length:=by
   rcases aN p ops.length with h' | h'
   ·exact h'
   ·rw[gS h']at g0;cases g0
  have A:∀i r,recs[i]?=some r->i≠p->(i<p/\Must ops i p)\/r.wr=[]:=by
   intro i r V I;rcases g5 i r V I with hx | hx
   ·have:=(cb.1 hw) _ hx;simp only[dw,jk,aD]at this;rcases this with h | h
    ·right;simpa[keys]using h
    ·exact .inl ⟨aR h.1,g p i h.2⟩
   ·exact .inr hx.2
  have g5':∀(j:Nat) (r:Rec),recs[j]?=some r->j≠p->(⟨0+j,r.rd,keys r.wr⟩:TE)∈trf\/(r.rd=[]/\r.wr=[]):=g5;have F:DrawFacts P n s.nb ops recs { s with nb:=s.nb+8*ops.length } (λj=>j<p\/(p<j/\(getN (me ops []) (0+j)).testBit (0+p)=false)):=by
   refine⟨g1,rfl,λj o r N V=>?_,λj o e N he u=>?_,λi j x y W hx hy=>?_,λi j x y W hx hy=>?_⟩
   ·obtain⟨p1,p2⟩:=g6 j o r N V;have e:=uc recs 0 j { s with nb:=s.nb+8*ops.length };simp only[dw]at e p2 ⊢;exact⟨λt Y=>p1▸Y,λhc=>(p2 hc).eqv e⟩
   ·have:=lz ops 0 hb1 j o e N he u;omega
   ·have:=pw (masks:=me ops []) ops [] hb2 i j x y (by simpa using W) (by simpa using hx) hy;simp only[bU,dw]at this;exact this.imp (g j i) λh=>h
   ·by_cases I:i=p
    ·
     subst I;rw[gr]at hx;cases hx;rcases A j y hy (by omega)with⟨h,_⟩ | h
     ·omega
     ·exact .inr (by simp[gw,h,keys])
    ·by_cases M:j=p
     ·subst M;rw[gr]at hy;cases hy;rcases A i x hx I with⟨_,h⟩ | h
      ·exact .inl h
      ·exact .inr (by simp[gw,h,keys])
     ·exact C trf x y i j J W (g5 i x hx I) (g5 j y hy M)
  have c:Eqv ((recs.take p).foldl St.put { s with nb:=s.nb+8*ops.length }) (appD 0 recs (λm=>decide (m<p)) { s with nb:=s.nb+8*ops.length }):=by
   have e:=uc recs 0 p { s with nb:=s.nb+8*ops.length };simpa using e
  have U:∀j,j<ops.length->j≠p->(j<p\/(p<j/\(getN (me ops []) (0+j)).testBit (0+p)=false))\/Must ops p j:=by
   intro j _ hne;cases u:(getN (me ops []) (0+j)).testBit (0+p)with
   | false=>exact .inl ((Nat.lt_or_gt_of_ne hne).imp (λh=>h) λh=>⟨h,rfl⟩)
   | true=>simp only[dw]at u;exact .inr (g j p u)
  refine wp_region_any S (RV F g0 gr (g7.eqv c) U (λD hD hd hn L x a' w' hv f=>⟨.pan v,_,L,⟨x,rfl,hv⟩,?inv,R⟩) _ _ ι a _ (by simp) (λj o e _ G=>by rw[K j]at G;cases G) (K p) (by rw[hno _ 0 _ _ K];exact hI1) (λi _ _ b u _=>?fresh) ?len)
  case inv=>
   have hH:∀b,look Q.H b=look (appD 0 recs D { s with nb:=s.nb+8*ops.length }).H b:=by
    intro b;rw[O.H,c.H,zJ,zJ];refine so _ 0 _ _ b _ λj r hj u=>?_;simp only[dw];by_cases M:j=p
    ·subst M;rw[gr]at hj;cases hj;rw[gw]at u;simp[keys]at u
    ·rcases A j r hj M with⟨d,hm⟩ | hm
     ·rw[hm.in hD g0 hd (by omega)];simp[d]
     ·rw[hm]at u;simp[keys]at u
   have hT:∀t v,look (MB ops s.T) t=some (some v)->look (appD 0 recs D { s with nb:=s.nb+8*ops.length }).T t=some (some v):=by
    intro t v Y;obtain⟨d,h2⟩:=xH ops t v Y;rw[CE,C5 _ 0 D t _ λj r hj V=>?_]
    ·exact h2
    ·exfalso;obtain⟨o,N⟩:=AT F hj;exact d o (fR N) ((F.loc j o r N hj).1 t V)
   refine⟨f.size,f.defers,λt v Y=>f.tmps t v (hT t v Y),⟨f.mem.inj,λb r u=>?_,f.mem.dom,λb blk hl hdd=>f.mem.blk b blk ?_ hdd⟩,?_,f.new,?_,λb r u=>?_,?_,?_⟩
   ·have:=f.mem.low b r u;have e:=O.nb.trans c.nb;rw[mZ]at e;show b<Q.nb;rw[e];exact this
   ·show look (wr++(appD 0 recs D { s with nb:=s.nb+8*ops.length }).H) b=_;rw[sd,<-hH b,<-sd];exact hl
   ·have e:=O.rb.trans c.rb;rw[zU]at e;have d:=f.ext;show ∀b q,ι0 b=some q->L b=some q\/Q.rb<=b;rw[e];simp only[St.app,zU]at d;exact d
   ·have e:=O.ro.trans c.ro;rw[kI]at e;have d:=f.fr;show Fr (roI ι0 Q.ro) w0.w w';rw[e];simp only[St.app,kI]at d;exact d
   ·have e:=O.lo.trans c.lo;rw[AA]at e;have d:=f.low b r u;show b<Q.lo;rw[e];simp only[St.app,AA]at d;exact d
   ·have e:=O.ro.trans c.ro;rw[kI]at e;have d:=f.fz;show ∀b q,L b=some (some q)->q.fz=true->b<Q.ro;rw[e];simp only[St.app,kI]at d;exact d
   ·have e:=O.ro.trans c.ro;rw[kI]at e;have d:=f.gl;show GL (roI ι0 Q.ro) w0.w;rw[e];simp only[St.app,kI]at d;exact d
  case fresh=>exact hI.fresh b (by omega)
  case len=>
   have:=D8 (λi=>!Dn (Array.replicate ops.toArray.size false) i) (List.range ops.length);simpa using this
end Go.Abs
